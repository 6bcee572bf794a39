/- The law ShardGens. -/
import Derived.Test.YtpkpdamdclafjaaShdLaw
set_option linter.unusedVariables false
set_option linter.unusedSimpArgs false
set_option maxRecDepth 40000
namespace Cib
open Go Go.RowKit Go.Proofs

theorem genP_cases (a : Nat) (n : Int) : genP a n = (0, 2) ∨ ∃ k : Nat, n = (k : Int) ∧ k < 1048576 ∧ a < 1099511627776 ∧ genP a n = (a * 1048576 + k, 0) := by
  unfold genP
  by_cases h : 1099511627776 ≤ a ∨ n < 0 ∨ 1048576 ≤ n
  · rw [if_pos h]
    exact .inl rfl
  · rw [if_neg h]
    obtain ⟨k, rfl⟩ := Int.eq_ofNat_of_zero_le (by omega : 0 ≤ n)
    exact .inr ⟨k, rfl, by omega, by omega, by rw [Int.toNat_natCast]⟩
set_option maxHeartbeats 1000000 in
theorem lawGens (a b : Nat) (n m : Int) (ha : a < 18446744073709551616) (hb : b < 18446744073709551616) (hn : -9223372036854775808 ≤ n ∧ n ≤ 9223372036854775807) (hm : -9223372036854775808 ≤ m ∧ m ≤ 9223372036854775807) (w : World) :
    Calls Try.prog 4 #[.int .u64 (a : Int), .int .i64 n, .int .u64 (b : Int), .int .i64 m] w fun e w' => e = .returned (.bool true) ∧ Below w.heap.size w w' := by
  have HG1 := Lib.hid (fun W => shdGen a n ha hn W)
  have HG2 := Lib.hid (fun W => refGen a n ha hn W)
  have HG3 := Lib.hid (fun W => shdGen b m hb hm W)
  have HL := Lib.hid (fun W => lies W)
  clear ha hb hn hm
  rcases genP_cases a n with e1 | ⟨k, rfl, hk, hka, e1⟩
  · rw [e1] at HG1 HG2
    unfold genV at HG1 HG2 HG3
    generalize genP b m = v at *
    obtain ⟨z, g⟩ := v
    simp only at HG3
    clear e1
    go_enter Try.func4, Try.ntmps4
    go_wp2_with fail
    refine (HG1.out _).mono ?_
    rintro _ _ ⟨rfl, rfl⟩
    go_wp2_with fail
    refine (HG2.out _).mono ?_
    rintro _ _ ⟨rfl, rfl⟩
    go_wp2_with fail
    refine (HG3.out _).mono ?_
    rintro _ _ ⟨rfl, rfl⟩
    go_wp2_with fail
    refine (HL.out _).mono ?_
    rintro e w' ⟨rfl, hb⟩
    go_wp2
    go_ret
    exact ⟨rfl, hb⟩
  · rw [e1] at HG1 HG2
    clear e1
    obtain ⟨x, HX⟩ : ∃ x, Hid (a * 1048576 + k = x) := ⟨_, rfl⟩
    rw [HX.out] at HG1 HG2
    rcases genP_cases b m with e2 | ⟨j, rfl, hj, hjb, e2⟩
    · rw [e2] at HG3
      unfold genV at HG1 HG2 HG3
      simp only at HG1 HG2 HG3
      clear e2 hk hka
      go_enter Try.func4, Try.ntmps4
      go_wp2_with fail
      refine (HG1.out _).mono ?_
      rintro _ _ ⟨rfl, rfl⟩
      go_wp2_with fail
      refine (HG2.out _).mono ?_
      rintro _ _ ⟨rfl, rfl⟩
      go_wp2_with fail
      refine (HG3.out _).mono ?_
      rintro _ _ ⟨rfl, rfl⟩
      go_wp2_with fail
      refine (HL.out _).mono ?_
      rintro e w' ⟨rfl, hb⟩
      go_wp2
      go_ret
      exact ⟨rfl, hb⟩
    · rw [e2] at HG3
      clear e2
      obtain ⟨z, HZ⟩ : ∃ x, Hid (b * 1048576 + j = x) := ⟨_, rfl⟩
      rw [HZ.out] at HG3
      unfold genV at HG1 HG2 HG3
      simp only at HG1 HG2 HG3
      have HE1 := Lib.hid (fun W => shdEpoch x W)
      have HE2 := Lib.hid (fun W => shdEpoch z W)
      rw [show x / 1048576 = a by have := HX.out; omega] at HE1
      rw [show z / 1048576 = b by have := HZ.out; omega] at HE2
      have hcmp : (a < b ∧ x < z) ∨ (b < a ∧ z ≤ x) ∨ (a = b ∧ k < j ∧ x < z) ∨ (a = b ∧ j ≤ k ∧ z ≤ x) := by
        have h1 := HX.out
        have h2 := HZ.out
        rcases Nat.lt_trichotomy a b with h | h | h
        · exact .inl ⟨h, by omega⟩
        · subst h
          rcases Nat.lt_or_ge k j with h3 | h3
          · exact .inr (.inr (.inl ⟨rfl, h3, by omega⟩))
          · exact .inr (.inr (.inr ⟨rfl, h3, by omega⟩))
        · exact .inr (.inl ⟨h, by omega⟩)
      clear hk hka hj hjb HX HZ
      rcases hcmp with ⟨h1, h2⟩ | ⟨h1, h2⟩ | ⟨h0, h1, h2⟩ | ⟨h0, h1, h2⟩
      all_goals try subst h0
      · go_enter Try.func4, Try.ntmps4
        go_wp2_with fail
        refine (HG1.out _).mono ?_
        rintro _ _ ⟨rfl, rfl⟩
        go_wp2_with fail
        refine (HG2.out _).mono ?_
        rintro _ _ ⟨rfl, rfl⟩
        go_wp2_with fail
        refine (HG3.out _).mono ?_
        rintro _ _ ⟨rfl, rfl⟩
        go_wp2_with fail
        refine (HE1.out _).mono ?_
        rintro _ _ ⟨rfl, rfl⟩
        go_wp2_with fail
        refine (HE2.out _).mono ?_
        rintro _ _ ⟨rfl, rfl⟩
        go_wp2_with fail
        refine (HL.out _).mono ?_
        rintro e w' ⟨rfl, hb⟩
        go_wp2
        go_ret
        exact ⟨rfl, hb⟩
      · have hne : ((a : Int) == (b : Int)) = false := by simp; omega
        go_enter Try.func4, Try.ntmps4
        go_wp2_with fail
        refine (HG1.out _).mono ?_
        rintro _ _ ⟨rfl, rfl⟩
        go_wp2_with fail
        refine (HG2.out _).mono ?_
        rintro _ _ ⟨rfl, rfl⟩
        go_wp2_with fail
        refine (HG3.out _).mono ?_
        rintro _ _ ⟨rfl, rfl⟩
        go_wp2_with fail
        refine (HE1.out _).mono ?_
        rintro _ _ ⟨rfl, rfl⟩
        go_wp2_with fail
        refine (HE2.out _).mono ?_
        rintro _ _ ⟨rfl, rfl⟩
        go_wp2_with fail
        refine (HL.out _).mono ?_
        rintro e w' ⟨rfl, hb⟩
        go_wp2
        go_ret
        exact ⟨rfl, hb⟩
      all_goals
        go_enter Try.func4, Try.ntmps4
        go_wp2_with fail
        refine (HG1.out _).mono ?_
        rintro _ _ ⟨rfl, rfl⟩
        go_wp2_with fail
        refine (HG2.out _).mono ?_
        rintro _ _ ⟨rfl, rfl⟩
        go_wp2_with fail
        refine (HG3.out _).mono ?_
        rintro _ _ ⟨rfl, rfl⟩
        go_wp2_with fail
        refine (HE1.out _).mono ?_
        rintro _ _ ⟨rfl, rfl⟩
        go_wp2_with fail
        refine (HE2.out _).mono ?_
        rintro _ _ ⟨rfl, rfl⟩
        go_wp2_with fail
        refine (HL.out _).mono ?_
        rintro e w' ⟨rfl, hb⟩
        go_wp2
        go_ret
        exact ⟨rfl, hb⟩
end Cib
