/- What the law CrcFar does. -/
import Derived.Test.YtlfdphiakbnkmaaCrcLaw
set_option linter.unusedVariables false
set_option linter.unusedSimpArgs false
namespace Go.Proofs.Ytlfdphiakbnkmaa
open Go.RowKit Cib
theorem far_law1 (s : BitVec 32) (a b : Int) (ha : 0 ≤ a) (hb : 0 ≤ b) : ~~~ Crc.Z b.toNat (~~~ ~~~ Crc.Z a.toNat (~~~ s)) = ~~~ Crc.Z (a + b).toNat (~~~ s) := by
  rw [BitVec.not_not, ← Crc.Z_add, Nat.add_comm, ← Int.toNat_add ha hb]
theorem far_law2 (s : BitVec 32) (a b : Int) (ha : 0 ≤ a) (hb : 0 ≤ b) : Crc.Z b.toNat (Crc.Z a.toNat s ^^^ 0#32) ^^^ 0#32 = Crc.Z (a + b).toNat s ^^^ 0#32 := by
  simp only [BitVec.xor_zero]
  rw [← Crc.Z_add, Nat.add_comm, ← Int.toNat_add ha hb]
theorem lawFar (s : BitVec 32) (a b : Int) (w : World) (ha : -9223372036854775808 ≤ a ∧ a ≤ 9223372036854775807) (hb : -9223372036854775808 ≤ b ∧ b ≤ 9223372036854775807) :
    Calls Try.prog 6 #[.int .u32 (s.toNat : Int), .int .i64 a, .int .i64 b] w fun e w' => e = .returned (.bool true) ∧ Below w.heap.size w w' := by
  obtain ⟨ha0, ha1⟩ := ha
  obtain ⟨hb0, hb1⟩ := hb
  by_cases hc : 0 ≤ a ∧ 0 ≤ b ∧ a ≤ 1099511627776 ∧ b ≤ 1099511627776
  · obtain ⟨h1, h2, h3, h4⟩ := hc
    have e1 := Lib.hid (far_law1 s a b h1 h2)
    have e2 := Lib.hid (far_law2 s a b h1 h2)
    go_enter Try.func6, Try.ntmps6
    go_wp2_with fail
    refine (crcZeros s a _ (by omega)).mono ?_
    rintro e w1 ⟨rfl, hw1⟩
    obtain ⟨z1, hz1⟩ : ∃ z, Hid (~~~ Crc.Z a.toNat (~~~ s) = z) := ⟨_, rfl⟩
    rw [hz1.out]
    go_wp2_with fail
    refine (crcZeros z1 b _ (by omega)).mono ?_
    rintro e w2 ⟨rfl, hw2⟩
    rw [← hz1.out, e1.out]
    obtain ⟨z2, hz2⟩ : ∃ z, Hid (~~~ Crc.Z (a + b).toNat (~~~ s) = z) := ⟨_, rfl⟩
    rw [hz2.out]
    go_wp2_with fail
    refine (crcZeros s (a + b) _ (by omega)).mono ?_
    rintro e w3 ⟨rfl, hw3⟩
    rw [hz2.out]
    go_wp2_with fail
    refine (crcJoin s 0#32 a _ (by omega)).mono ?_
    rintro e w4 ⟨rfl, hw4⟩
    obtain ⟨z3, hz3⟩ : ∃ z, Hid (Crc.Z a.toNat s ^^^ 0#32 = z) := ⟨_, rfl⟩
    rw [hz3.out]
    go_wp2_with fail
    refine (crcJoin z3 0#32 b _ (by omega)).mono ?_
    rintro e w5 ⟨rfl, hw5⟩
    rw [← hz3.out, e2.out]
    obtain ⟨z4, hz4⟩ : ∃ z, Hid (Crc.Z (a + b).toNat s ^^^ 0#32 = z) := ⟨_, rfl⟩
    rw [hz4.out]
    go_wp2_with fail
    refine (crcJoin s 0#32 (a + b) _ (by omega)).mono ?_
    rintro e w6 ⟨rfl, hw6⟩
    rw [hz4.out]
    go_wp2_with fail
    refine (summed _).mono ?_
    rintro e w7 ⟨rfl, hw7⟩
    go_wp2_with fail
    go_ret
    exact ⟨rfl, (((((hw1.trans (hw2.mono hw1.size)).via hw3).via hw4).via hw5).via hw6).via hw7⟩
  · have hs : ∀ w0 : World, Calls Try.prog 9 #[] w0 fun e w' => e = .returned (.bool true) ∧ Below w0.heap.size w0 w' := summed
    have HS := Lib.hid hs
    clear hs
    by_cases h1 : a < 0
    · go_enter Try.func6, Try.ntmps6
      go_wp2_with fail
      refine (HS.out _).mono ?_
      rintro e w7 ⟨rfl, hw7⟩
      go_wp2_with fail
      go_ret
      exact ⟨rfl, hw7⟩
    · by_cases h2 : b < 0
      · go_enter Try.func6, Try.ntmps6
        go_wp2_with fail
        refine (HS.out _).mono ?_
        rintro e w7 ⟨rfl, hw7⟩
        go_wp2_with fail
        go_ret
        exact ⟨rfl, hw7⟩
      · by_cases h3 : 1099511627776 < a
        · go_enter Try.func6, Try.ntmps6
          go_wp2_with fail
          refine (HS.out _).mono ?_
          rintro e w7 ⟨rfl, hw7⟩
          go_wp2_with fail
          go_ret
          exact ⟨rfl, hw7⟩
        · have h4 : 1099511627776 < b := by omega
          clear hc
          go_enter Try.func6, Try.ntmps6
          go_wp2_with fail
          refine (HS.out _).mono ?_
          rintro e w7 ⟨rfl, hw7⟩
          go_wp2_with fail
          go_ret
          exact ⟨rfl, hw7⟩
end Go.Proofs.Ytlfdphiakbnkmaa
