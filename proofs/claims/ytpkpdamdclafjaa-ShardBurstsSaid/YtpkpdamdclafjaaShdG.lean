/- Generations, kinds: contracts. -/
import Derived.Test.YtpkpdamdclafjaaReg
import Derived.Test.YtpkpdamdclafjaaNumG
import Derived.Test.YtpkpdamdclafjaaCrcS
import Derived.Test.YtpkpdamdclafjaaShdP
set_option linter.unusedVariables false
set_option linter.unusedSimpArgs false
set_option maxRecDepth 20000
namespace Cib
open Go Go.RowKit Go.Proofs

/-- The generation, and the error. -/
def genP (a : Nat) (n : Int) : Nat × Int := if 1099511627776 ≤ a ∨ n < 0 ∨ 1048576 ≤ n then (0, 2) else (a * 1048576 + n.toNat, 0)
def genV (r : Nat × Int) : Value := .tuple #[.int .u64 (r.1 : Int), .int .i64 r.2]
theorem shdGen (a : Nat) (n : Int) (ha : a < 18446744073709551616) (hn : -9223372036854775808 ≤ n ∧ n ≤ 9223372036854775807) (w : World) :
    Calls Try.prog 10 #[.int .u64 (a : Int), .int .i64 n] w fun e w' => e = .returned (genV (genP a n)) ∧ w = w' := by
  have HA := Lib.hid ha
  clear ha
  by_cases h1 : (1099511627776 : Int) ≤ (a : Int)
  · have HV : Hid (genP a n = (0, 2)) := if_pos (.inl (by omega))
    go_enter Try.func10, Try.ntmps10
    go_wp2
    go_ret2
    exact ⟨by rw [HV.out]; rfl, rfl⟩
  · by_cases h2 : n < 0
    · have HV : Hid (genP a n = (0, 2)) := if_pos (.inr (.inl h2))
      go_enter Try.func10, Try.ntmps10
      go_wp2
      go_ret2
      exact ⟨by rw [HV.out]; rfl, rfl⟩
    · by_cases h3 : 1048576 ≤ n
      · have HV : Hid (genP a n = (0, 2)) := if_pos (.inr (.inr h3))
        go_enter Try.func10, Try.ntmps10
        go_wp2
        go_ret2
        exact ⟨by rw [HV.out]; rfl, rfl⟩
      · have hv : genP a n = (a * 1048576 + n.toNat, 0) := if_neg (by omega)
        obtain ⟨m, rfl⟩ := Int.eq_ofNat_of_zero_le (by omega : 0 ≤ n)
        rw [Int.toNat_natCast] at hv
        obtain ⟨x, HX, hx2⟩ : ∃ x : Nat, Hid (a * 1048576 + m = x) ∧ bits .or .u64 ((a : Int) * 1048576) (m : Int) = (x : Int) := by
          refine ⟨a * 1048576 + m, by (show _ = _; rfl), ?_⟩
          have h4 : a * 1048576 ||| m = a * 1048576 + m := by
            rw [show a * 1048576 = 2 ^ 20 * a from by omega, ← Nat.two_pow_add_eq_or_of_lt (by omega : m < 2 ^ 20)]
          have h5 := u64_or_nat (a * 1048576) m (by omega) (by omega)
          rw [h4, Int.natCast_mul] at h5
          exact h5
        rw [HX.out] at hv
        have HV := Lib.hid hv
        clear hv
        go_enter Try.func10, Try.ntmps10
        go_wp2
        go_ret2
        exact ⟨by rw [HV.out]; rfl, rfl⟩
theorem refGen (a : Nat) (n : Int) (ha : a < 18446744073709551616) (hn : -9223372036854775808 ≤ n ∧ n ≤ 9223372036854775807) (w : World) :
    Calls Try.prog 11 #[.int .u64 (a : Int), .int .i64 n] w fun e w' => e = .returned (genV (genP a n)) ∧ w = w' := by
  have HA := Lib.hid ha
  clear ha
  by_cases h1 : (1099511627776 : Int) ≤ (a : Int)
  · have HV : Hid (genP a n = (0, 2)) := if_pos (.inl (by omega))
    go_enter Try.func11, Try.ntmps11
    go_wp2
    go_ret2
    exact ⟨by rw [HV.out]; rfl, rfl⟩
  · by_cases h2 : n < 0
    · have HV : Hid (genP a n = (0, 2)) := if_pos (.inr (.inl h2))
      go_enter Try.func11, Try.ntmps11
      go_wp2
      go_ret2
      exact ⟨by rw [HV.out]; rfl, rfl⟩
    · by_cases h3 : 1048576 ≤ n
      · have HV : Hid (genP a n = (0, 2)) := if_pos (.inr (.inr h3))
        go_enter Try.func11, Try.ntmps11
        go_wp2
        go_ret2
        exact ⟨by rw [HV.out]; rfl, rfl⟩
      · have hv : genP a n = (a * 1048576 + n.toNat, 0) := if_neg (by omega)
        obtain ⟨m, rfl⟩ := Int.eq_ofNat_of_zero_le (by omega : 0 ≤ n)
        rw [Int.toNat_natCast] at hv
        have HV := Lib.hid hv
        clear hv
        go_enter Try.func11, Try.ntmps11
        go_wp2
        go_ret2
        exact ⟨by rw [HV.out]; unfold genV; simp, rfl⟩
theorem shdEpoch (a : Nat) (w : World) :
    Calls Try.prog 12 #[.int .u64 (a : Int)] w fun e w' => e = .returned (.int .u64 ((a / 1048576 : Nat) : Int)) ∧ w = w' := by
  go_enter Try.func12, Try.ntmps12
  go_wp2
  go_ret
  exact ⟨by simp, rfl⟩
theorem shdKind (k : Nat) (w : World) :
    Calls Try.prog 18 #[.int .u8 (k : Int)] w fun e w' => e = .returned (.bool (Shd.kindB k)) ∧ w = w' := by
  by_cases h1 : 1 ≤ k
  · by_cases h2 : k ≤ 4
    · have HV : Hid (Shd.kindB k = true) := by (show _ = _; simp [Shd.kindB, h1, h2])
      have hd : decide ((k : Int) ≤ 4) = true := by simp; omega
      go_enter Try.func18, Try.ntmps18
      go_wp2
      go_ret
      exact ⟨by rw [HV.out]; rfl, rfl⟩
    · have HV : Hid (Shd.kindB k = false) := by (show _ = _; simp [Shd.kindB, h1, h2])
      have hd : decide ((k : Int) ≤ 4) = false := by simp; omega
      go_enter Try.func18, Try.ntmps18
      go_wp2
      go_ret
      exact ⟨by rw [HV.out]; rfl, rfl⟩
  · obtain rfl : k = 0 := by omega
    go_enter Try.func18, Try.ntmps18
    go_wp2
    go_ret
    exact ⟨rfl, rfl⟩
end Cib
