/- What package num's readings compute. -/
import Derived.Test.YtpkpdamdclafjaaNumW
set_option linter.unusedVariables false
set_option linter.unusedSimpArgs false
set_option maxRecDepth 20000
namespace Go.Proofs.Ytpkpdamdclafjaa
open Go.RowKit Cib

def oddB (c : UInt8) (i : Nat) : Bool := decide ((i = 9 ∧ 1 < c.toNat) ∨ (0 < i ∧ c.toNat = 0))
theorem var_mask (c : UInt8) : ∃ d : Nat, Hid (d = c.toNat % 128) ∧ d < 128 ∧ bits .andNot .u8 (c.toNat : Int) 128 = (d : Int) := by
  refine ⟨c.toNat % 128, rfl, Nat.mod_lt _ (by decide), ?_⟩
  have h := u8_andNot_nat c.toNat 128 c.toNat_lt (by decide)
  rw [show (255 : Nat) - 128 = 2 ^ 7 - 1 from rfl, Nat.and_two_pow_sub_one_eq_mod] at h
  exact h
theorem var_add (k m d : Nat) (hk : k ≤ 9) (hm : m < 128 ^ k) (hd : d < 128) (h9 : k = 9 → d ≤ 1) :
    ∃ x : Nat, Hid (x = d * 128 ^ k) ∧ IntKind.u64.wrap ((d : Int) * 2 ^ (7 * k)) = (x : Int) ∧ bits .or .u64 (m : Int) (x : Int) = ((m + x : Nat) : Int) := by
  have hp : (128 : Nat) ^ k = 2 ^ (7 * k) := by rw [Nat.pow_mul]
  have hx : d * 128 ^ k + 128 ^ k ≤ 18446744073709551616 := by
    rw [← Num.cap_mul hk, ← Nat.succ_mul, Nat.mul_comm]
    refine Nat.mul_le_mul_left _ ?_
    by_cases h : k = 9
    · subst h
      have := h9 rfl
      rw [Num.cap_nine]
      omega
    · have := Num.cap_succ (i := k) (by omega)
      have := Num.cap_pos (k + 1)
      omega
  refine ⟨d * 128 ^ k, rfl, ?_, ?_⟩
  · rw [hp] at hx ⊢
    have : (d : Int) * 2 ^ (7 * k) = ((d * 2 ^ (7 * k) : Nat) : Int) := by simp
    have := Nat.two_pow_pos (7 * k)
    rw [IntKind.wrap_u64, ‹(d : Int) * 2 ^ (7 * k) = _›]
    omega
  · have h1 : 0 < 128 ^ k := Nat.pow_pos (by decide)
    rw [u64_or_nat _ _ (by omega) (by omega)]
    rw [hp] at hm ⊢
    rw [Nat.or_comm, Nat.mul_comm, ← Nat.two_pow_add_eq_or_of_lt hm, Nat.add_comm]
/-- What Var answers, as a value. -/
def varV (bs : List UInt8) (at_ : Int) : Value := .tuple #[.int .u64 ((Num.var bs at_).1 : Int), .int .i64 (Num.var bs at_).2.1, .int .i64 ((Num.var bs at_).2.2 : Int)]
theorem tup3 {a a' b b' c c' : Value} (h1 : a = a') (h2 : b = b') (h3 : c = c') : Ending.returned (.tuple #[a, b, c]) = .returned (.tuple #[a', b', c']) := by rw [h1, h2, h3]


end Go.Proofs.Ytpkpdamdclafjaa
