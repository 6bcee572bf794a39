/- A shard of which bits are turned, all within 32 side by side, is no shard: plain Lean, no program. -/
import Derived.Test.YtpkpdamdclafjaaShdP
import Derived.Test.YtpkpdamdclafjaaCrcQ
set_option linter.unusedVariables false
set_option linter.unusedSimpArgs false
namespace Shd
open Crc
theorem bitAt_leB : ∀ (n x j : Nat), j < 8 * n → bitAt (Num.leB x n) j = x / 2 ^ j % 2
  | 0, x, j, h => by omega
  | n + 1, x, j, h => by
    rw [Num.leB_cons]
    by_cases hj : j < 8
    · have e1 : j / 8 = 0 := by omega
      have e2 : j % 8 = j := by omega
      unfold bitAt
      rw [e1, e2]
      show (UInt8.ofNat x).toNat / 2 ^ j % 2 = _
      rw [UInt8.toNat_ofNat']
      have : j = 0 ∨ j = 1 ∨ j = 2 ∨ j = 3 ∨ j = 4 ∨ j = 5 ∨ j = 6 ∨ j = 7 := by omega
      rcases this with rfl | rfl | rfl | rfl | rfl | rfl | rfl | rfl <;> simp only [Nat.reducePow, Nat.reduceMod] <;> omega
    · obtain ⟨i, rfl⟩ : ∃ i, j = 8 + i := ⟨j - 8, by omega⟩
      rw [bitAt_cons, bitAt_leB n (x / 256) i (by omega), Nat.div_div_eq_div_mul, Nat.pow_add]
theorem through_le4 (x : Nat) (hx : x < 4294967296) : through 0#32 (Num.leB x 4) = steps 32 (BitVec.ofNat 32 x) := by
  rw [through_feed, Num.leB_length, feed_congr 0#32 _ (fun i => x / 2 ^ i % 2) (8 * 4) (fun j hj => bitAt_leB 4 x j hj), feed_mask x 32 (Nat.le_refl _), Nat.mod_eq_of_lt (by omega)]
/-- What the sum of bytes with their own sum behind them always is. -/
theorem residue (t : List UInt8) : more 0#32 (closed t) = ~~~ steps 32 (BitVec.allOnes 32) := by
  unfold closed
  rw [more_law]
  generalize more 0#32 t = s
  show ~~~ through (~~~ s) (Num.leB s.toNat 4) = _
  congr 1
  rw [through_eq, Num.leB_length, through_le4 _ s.isLt]
  show steps 32 (~~~ s) ^^^ _ = _
  rw [BitVec.ofNat_toNat, BitVec.setWidth_eq, ← steps_xor, not_eq_xor]
  congr 1
  rw [BitVec.xor_comm s, BitVec.xor_assoc, BitVec.xor_self, BitVec.xor_zero]
theorem Z_zero_of (k : Nat) (c : BitVec 32) (h : Z k c = 0#32) : c = 0#32 := steps_zero_of _ _ h
theorem get_burst {t : List UInt8} (ht : t.length = 60) (K m : Nat) (hm : m < 4294967296) (h0 : m ≠ 0) (hK : K ≤ 60) : getS (chg (closed t) K (Num.leB m 4) 4) = (nul, 4) := by
  have hl : (chg (closed t) K (Num.leB m 4) 4).length = 64 := by rw [chg_length, closed_length, ht]
  have hs := chg_sum (closed t) K (Num.leB m 4) (by rw [Num.leB_length, closed_length, ht]; omega)
  rw [Num.leB_length, through_le4 m hm] at hs
  unfold getS
  rw [if_neg (by simp [hl]), if_pos]
  intro he
  have hc := (closed_iff hl).2 he
  have h1 := residue ((chg (closed t) K (Num.leB m 4) 4).take 60)
  have h2 := residue t
  rw [hc] at h1
  rw [h1] at hs
  rw [h2] at hs
  generalize ~~~ steps 32 (BitVec.allOnes 32) = r at hs
  have hz : Z ((closed t).length - 4 - K) (steps 32 (BitVec.ofNat 32 m)) = 0#32 := by
    have := congrArg (fun x => r ^^^ x) hs
    simp only [BitVec.xor_self] at this
    rw [← BitVec.xor_assoc, BitVec.xor_self, BitVec.zero_xor] at this
    exact this.symm
  have h3 := steps_zero_of _ _ (Z_zero_of _ _ hz)
  have h4 : (BitVec.ofNat 32 m).toNat = 0 := by rw [h3]; rfl
  rw [BitVec.toNat_ofNat, Nat.mod_eq_of_lt (by omega)] at h4
  exact h0 h4
theorem get_short {b : List UInt8} (h : b.length ≠ 64) : getS b = (nul, 2) := by
  unfold getS
  rw [if_pos h]
end Shd
