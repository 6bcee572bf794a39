/- Order: lengths in bits up to 45, the draw of xorshift. Printed by genS.py. -/
import Derived.Test.YtijinfmokbaahaaOrdS
import Derived.Laws.Bits64b
set_option linter.unusedVariables false
set_option linter.unusedSimpArgs false
set_option maxRecDepth 20000
namespace Cib
open Go Go.RowKit Go.Proofs
theorem bLen64_0 (w : World) : Calls Try.prog 53 #[.int .u64 0] w fun e w' => e = .returned (.int .i64 0) ∧ w' = w := by
  go_enter Try.func53, Try.ntmps53
  go_wp2
  go_ret
  exact ⟨by kernel_rfl, rfl⟩
theorem bLen_0 (w : World) : Calls Try.prog 42 #[.int .u64 0] w fun e w' => e = .returned (.int .i64 0) ∧ w' = w := by
  go_enter Try.func42, Try.ntmps42
  go_wp2_with (go_at_call 53; refine (bLen64_0 _).mono ?_; rintro e w' ⟨rfl, rfl⟩)
  go_ret
  exact ⟨rfl, rfl⟩
theorem bLen64_1 (w : World) : Calls Try.prog 53 #[.int .u64 1] w fun e w' => e = .returned (.int .i64 1) ∧ w' = w := by
  go_enter Try.func53, Try.ntmps53
  go_wp2
  go_ret
  exact ⟨by kernel_rfl, rfl⟩
theorem bLen_1 (w : World) : Calls Try.prog 42 #[.int .u64 1] w fun e w' => e = .returned (.int .i64 1) ∧ w' = w := by
  go_enter Try.func42, Try.ntmps42
  go_wp2_with (go_at_call 53; refine (bLen64_1 _).mono ?_; rintro e w' ⟨rfl, rfl⟩)
  go_ret
  exact ⟨rfl, rfl⟩
theorem bLen64_2 (w : World) : Calls Try.prog 53 #[.int .u64 2] w fun e w' => e = .returned (.int .i64 2) ∧ w' = w := by
  go_enter Try.func53, Try.ntmps53
  go_wp2
  go_ret
  exact ⟨by kernel_rfl, rfl⟩
theorem bLen_2 (w : World) : Calls Try.prog 42 #[.int .u64 2] w fun e w' => e = .returned (.int .i64 2) ∧ w' = w := by
  go_enter Try.func42, Try.ntmps42
  go_wp2_with (go_at_call 53; refine (bLen64_2 _).mono ?_; rintro e w' ⟨rfl, rfl⟩)
  go_ret
  exact ⟨rfl, rfl⟩
theorem bLen64_3 (w : World) : Calls Try.prog 53 #[.int .u64 3] w fun e w' => e = .returned (.int .i64 2) ∧ w' = w := by
  go_enter Try.func53, Try.ntmps53
  go_wp2
  go_ret
  exact ⟨by kernel_rfl, rfl⟩
theorem bLen_3 (w : World) : Calls Try.prog 42 #[.int .u64 3] w fun e w' => e = .returned (.int .i64 2) ∧ w' = w := by
  go_enter Try.func42, Try.ntmps42
  go_wp2_with (go_at_call 53; refine (bLen64_3 _).mono ?_; rintro e w' ⟨rfl, rfl⟩)
  go_ret
  exact ⟨rfl, rfl⟩
theorem bLen64_4 (w : World) : Calls Try.prog 53 #[.int .u64 4] w fun e w' => e = .returned (.int .i64 3) ∧ w' = w := by
  go_enter Try.func53, Try.ntmps53
  go_wp2
  go_ret
  exact ⟨by kernel_rfl, rfl⟩
theorem bLen_4 (w : World) : Calls Try.prog 42 #[.int .u64 4] w fun e w' => e = .returned (.int .i64 3) ∧ w' = w := by
  go_enter Try.func42, Try.ntmps42
  go_wp2_with (go_at_call 53; refine (bLen64_4 _).mono ?_; rintro e w' ⟨rfl, rfl⟩)
  go_ret
  exact ⟨rfl, rfl⟩
theorem bLen64_5 (w : World) : Calls Try.prog 53 #[.int .u64 5] w fun e w' => e = .returned (.int .i64 3) ∧ w' = w := by
  go_enter Try.func53, Try.ntmps53
  go_wp2
  go_ret
  exact ⟨by kernel_rfl, rfl⟩
theorem bLen_5 (w : World) : Calls Try.prog 42 #[.int .u64 5] w fun e w' => e = .returned (.int .i64 3) ∧ w' = w := by
  go_enter Try.func42, Try.ntmps42
  go_wp2_with (go_at_call 53; refine (bLen64_5 _).mono ?_; rintro e w' ⟨rfl, rfl⟩)
  go_ret
  exact ⟨rfl, rfl⟩
theorem bLen64_6 (w : World) : Calls Try.prog 53 #[.int .u64 6] w fun e w' => e = .returned (.int .i64 3) ∧ w' = w := by
  go_enter Try.func53, Try.ntmps53
  go_wp2
  go_ret
  exact ⟨by kernel_rfl, rfl⟩
theorem bLen_6 (w : World) : Calls Try.prog 42 #[.int .u64 6] w fun e w' => e = .returned (.int .i64 3) ∧ w' = w := by
  go_enter Try.func42, Try.ntmps42
  go_wp2_with (go_at_call 53; refine (bLen64_6 _).mono ?_; rintro e w' ⟨rfl, rfl⟩)
  go_ret
  exact ⟨rfl, rfl⟩
theorem bLen64_7 (w : World) : Calls Try.prog 53 #[.int .u64 7] w fun e w' => e = .returned (.int .i64 3) ∧ w' = w := by
  go_enter Try.func53, Try.ntmps53
  go_wp2
  go_ret
  exact ⟨by kernel_rfl, rfl⟩
theorem bLen_7 (w : World) : Calls Try.prog 42 #[.int .u64 7] w fun e w' => e = .returned (.int .i64 3) ∧ w' = w := by
  go_enter Try.func42, Try.ntmps42
  go_wp2_with (go_at_call 53; refine (bLen64_7 _).mono ?_; rintro e w' ⟨rfl, rfl⟩)
  go_ret
  exact ⟨rfl, rfl⟩
theorem bLen64_8 (w : World) : Calls Try.prog 53 #[.int .u64 8] w fun e w' => e = .returned (.int .i64 4) ∧ w' = w := by
  go_enter Try.func53, Try.ntmps53
  go_wp2
  go_ret
  exact ⟨by kernel_rfl, rfl⟩
theorem bLen_8 (w : World) : Calls Try.prog 42 #[.int .u64 8] w fun e w' => e = .returned (.int .i64 4) ∧ w' = w := by
  go_enter Try.func42, Try.ntmps42
  go_wp2_with (go_at_call 53; refine (bLen64_8 _).mono ?_; rintro e w' ⟨rfl, rfl⟩)
  go_ret
  exact ⟨rfl, rfl⟩
theorem bLen64_9 (w : World) : Calls Try.prog 53 #[.int .u64 9] w fun e w' => e = .returned (.int .i64 4) ∧ w' = w := by
  go_enter Try.func53, Try.ntmps53
  go_wp2
  go_ret
  exact ⟨by kernel_rfl, rfl⟩
theorem bLen_9 (w : World) : Calls Try.prog 42 #[.int .u64 9] w fun e w' => e = .returned (.int .i64 4) ∧ w' = w := by
  go_enter Try.func42, Try.ntmps42
  go_wp2_with (go_at_call 53; refine (bLen64_9 _).mono ?_; rintro e w' ⟨rfl, rfl⟩)
  go_ret
  exact ⟨rfl, rfl⟩
theorem bLen64_10 (w : World) : Calls Try.prog 53 #[.int .u64 10] w fun e w' => e = .returned (.int .i64 4) ∧ w' = w := by
  go_enter Try.func53, Try.ntmps53
  go_wp2
  go_ret
  exact ⟨by kernel_rfl, rfl⟩
theorem bLen_10 (w : World) : Calls Try.prog 42 #[.int .u64 10] w fun e w' => e = .returned (.int .i64 4) ∧ w' = w := by
  go_enter Try.func42, Try.ntmps42
  go_wp2_with (go_at_call 53; refine (bLen64_10 _).mono ?_; rintro e w' ⟨rfl, rfl⟩)
  go_ret
  exact ⟨rfl, rfl⟩
theorem bLen64_11 (w : World) : Calls Try.prog 53 #[.int .u64 11] w fun e w' => e = .returned (.int .i64 4) ∧ w' = w := by
  go_enter Try.func53, Try.ntmps53
  go_wp2
  go_ret
  exact ⟨by kernel_rfl, rfl⟩
theorem bLen_11 (w : World) : Calls Try.prog 42 #[.int .u64 11] w fun e w' => e = .returned (.int .i64 4) ∧ w' = w := by
  go_enter Try.func42, Try.ntmps42
  go_wp2_with (go_at_call 53; refine (bLen64_11 _).mono ?_; rintro e w' ⟨rfl, rfl⟩)
  go_ret
  exact ⟨rfl, rfl⟩
theorem bLen64_12 (w : World) : Calls Try.prog 53 #[.int .u64 12] w fun e w' => e = .returned (.int .i64 4) ∧ w' = w := by
  go_enter Try.func53, Try.ntmps53
  go_wp2
  go_ret
  exact ⟨by kernel_rfl, rfl⟩
theorem bLen_12 (w : World) : Calls Try.prog 42 #[.int .u64 12] w fun e w' => e = .returned (.int .i64 4) ∧ w' = w := by
  go_enter Try.func42, Try.ntmps42
  go_wp2_with (go_at_call 53; refine (bLen64_12 _).mono ?_; rintro e w' ⟨rfl, rfl⟩)
  go_ret
  exact ⟨rfl, rfl⟩
theorem bLen64_13 (w : World) : Calls Try.prog 53 #[.int .u64 13] w fun e w' => e = .returned (.int .i64 4) ∧ w' = w := by
  go_enter Try.func53, Try.ntmps53
  go_wp2
  go_ret
  exact ⟨by kernel_rfl, rfl⟩
theorem bLen_13 (w : World) : Calls Try.prog 42 #[.int .u64 13] w fun e w' => e = .returned (.int .i64 4) ∧ w' = w := by
  go_enter Try.func42, Try.ntmps42
  go_wp2_with (go_at_call 53; refine (bLen64_13 _).mono ?_; rintro e w' ⟨rfl, rfl⟩)
  go_ret
  exact ⟨rfl, rfl⟩
theorem bLen64_14 (w : World) : Calls Try.prog 53 #[.int .u64 14] w fun e w' => e = .returned (.int .i64 4) ∧ w' = w := by
  go_enter Try.func53, Try.ntmps53
  go_wp2
  go_ret
  exact ⟨by kernel_rfl, rfl⟩
theorem bLen_14 (w : World) : Calls Try.prog 42 #[.int .u64 14] w fun e w' => e = .returned (.int .i64 4) ∧ w' = w := by
  go_enter Try.func42, Try.ntmps42
  go_wp2_with (go_at_call 53; refine (bLen64_14 _).mono ?_; rintro e w' ⟨rfl, rfl⟩)
  go_ret
  exact ⟨rfl, rfl⟩
theorem bLen64_15 (w : World) : Calls Try.prog 53 #[.int .u64 15] w fun e w' => e = .returned (.int .i64 4) ∧ w' = w := by
  go_enter Try.func53, Try.ntmps53
  go_wp2
  go_ret
  exact ⟨by kernel_rfl, rfl⟩
theorem bLen_15 (w : World) : Calls Try.prog 42 #[.int .u64 15] w fun e w' => e = .returned (.int .i64 4) ∧ w' = w := by
  go_enter Try.func42, Try.ntmps42
  go_wp2_with (go_at_call 53; refine (bLen64_15 _).mono ?_; rintro e w' ⟨rfl, rfl⟩)
  go_ret
  exact ⟨rfl, rfl⟩
theorem bLen64_16 (w : World) : Calls Try.prog 53 #[.int .u64 16] w fun e w' => e = .returned (.int .i64 5) ∧ w' = w := by
  go_enter Try.func53, Try.ntmps53
  go_wp2
  go_ret
  exact ⟨by kernel_rfl, rfl⟩
theorem bLen_16 (w : World) : Calls Try.prog 42 #[.int .u64 16] w fun e w' => e = .returned (.int .i64 5) ∧ w' = w := by
  go_enter Try.func42, Try.ntmps42
  go_wp2_with (go_at_call 53; refine (bLen64_16 _).mono ?_; rintro e w' ⟨rfl, rfl⟩)
  go_ret
  exact ⟨rfl, rfl⟩
theorem bLen64_17 (w : World) : Calls Try.prog 53 #[.int .u64 17] w fun e w' => e = .returned (.int .i64 5) ∧ w' = w := by
  go_enter Try.func53, Try.ntmps53
  go_wp2
  go_ret
  exact ⟨by kernel_rfl, rfl⟩
theorem bLen_17 (w : World) : Calls Try.prog 42 #[.int .u64 17] w fun e w' => e = .returned (.int .i64 5) ∧ w' = w := by
  go_enter Try.func42, Try.ntmps42
  go_wp2_with (go_at_call 53; refine (bLen64_17 _).mono ?_; rintro e w' ⟨rfl, rfl⟩)
  go_ret
  exact ⟨rfl, rfl⟩
theorem bLen64_18 (w : World) : Calls Try.prog 53 #[.int .u64 18] w fun e w' => e = .returned (.int .i64 5) ∧ w' = w := by
  go_enter Try.func53, Try.ntmps53
  go_wp2
  go_ret
  exact ⟨by kernel_rfl, rfl⟩
theorem bLen_18 (w : World) : Calls Try.prog 42 #[.int .u64 18] w fun e w' => e = .returned (.int .i64 5) ∧ w' = w := by
  go_enter Try.func42, Try.ntmps42
  go_wp2_with (go_at_call 53; refine (bLen64_18 _).mono ?_; rintro e w' ⟨rfl, rfl⟩)
  go_ret
  exact ⟨rfl, rfl⟩
theorem bLen64_19 (w : World) : Calls Try.prog 53 #[.int .u64 19] w fun e w' => e = .returned (.int .i64 5) ∧ w' = w := by
  go_enter Try.func53, Try.ntmps53
  go_wp2
  go_ret
  exact ⟨by kernel_rfl, rfl⟩
theorem bLen_19 (w : World) : Calls Try.prog 42 #[.int .u64 19] w fun e w' => e = .returned (.int .i64 5) ∧ w' = w := by
  go_enter Try.func42, Try.ntmps42
  go_wp2_with (go_at_call 53; refine (bLen64_19 _).mono ?_; rintro e w' ⟨rfl, rfl⟩)
  go_ret
  exact ⟨rfl, rfl⟩
theorem bLen64_20 (w : World) : Calls Try.prog 53 #[.int .u64 20] w fun e w' => e = .returned (.int .i64 5) ∧ w' = w := by
  go_enter Try.func53, Try.ntmps53
  go_wp2
  go_ret
  exact ⟨by kernel_rfl, rfl⟩
theorem bLen_20 (w : World) : Calls Try.prog 42 #[.int .u64 20] w fun e w' => e = .returned (.int .i64 5) ∧ w' = w := by
  go_enter Try.func42, Try.ntmps42
  go_wp2_with (go_at_call 53; refine (bLen64_20 _).mono ?_; rintro e w' ⟨rfl, rfl⟩)
  go_ret
  exact ⟨rfl, rfl⟩
theorem bLen64_21 (w : World) : Calls Try.prog 53 #[.int .u64 21] w fun e w' => e = .returned (.int .i64 5) ∧ w' = w := by
  go_enter Try.func53, Try.ntmps53
  go_wp2
  go_ret
  exact ⟨by kernel_rfl, rfl⟩
theorem bLen_21 (w : World) : Calls Try.prog 42 #[.int .u64 21] w fun e w' => e = .returned (.int .i64 5) ∧ w' = w := by
  go_enter Try.func42, Try.ntmps42
  go_wp2_with (go_at_call 53; refine (bLen64_21 _).mono ?_; rintro e w' ⟨rfl, rfl⟩)
  go_ret
  exact ⟨rfl, rfl⟩
theorem bLen64_22 (w : World) : Calls Try.prog 53 #[.int .u64 22] w fun e w' => e = .returned (.int .i64 5) ∧ w' = w := by
  go_enter Try.func53, Try.ntmps53
  go_wp2
  go_ret
  exact ⟨by kernel_rfl, rfl⟩
theorem bLen_22 (w : World) : Calls Try.prog 42 #[.int .u64 22] w fun e w' => e = .returned (.int .i64 5) ∧ w' = w := by
  go_enter Try.func42, Try.ntmps42
  go_wp2_with (go_at_call 53; refine (bLen64_22 _).mono ?_; rintro e w' ⟨rfl, rfl⟩)
  go_ret
  exact ⟨rfl, rfl⟩
theorem bLen64_23 (w : World) : Calls Try.prog 53 #[.int .u64 23] w fun e w' => e = .returned (.int .i64 5) ∧ w' = w := by
  go_enter Try.func53, Try.ntmps53
  go_wp2
  go_ret
  exact ⟨by kernel_rfl, rfl⟩
theorem bLen_23 (w : World) : Calls Try.prog 42 #[.int .u64 23] w fun e w' => e = .returned (.int .i64 5) ∧ w' = w := by
  go_enter Try.func42, Try.ntmps42
  go_wp2_with (go_at_call 53; refine (bLen64_23 _).mono ?_; rintro e w' ⟨rfl, rfl⟩)
  go_ret
  exact ⟨rfl, rfl⟩
theorem bLen64_24 (w : World) : Calls Try.prog 53 #[.int .u64 24] w fun e w' => e = .returned (.int .i64 5) ∧ w' = w := by
  go_enter Try.func53, Try.ntmps53
  go_wp2
  go_ret
  exact ⟨by kernel_rfl, rfl⟩
theorem bLen_24 (w : World) : Calls Try.prog 42 #[.int .u64 24] w fun e w' => e = .returned (.int .i64 5) ∧ w' = w := by
  go_enter Try.func42, Try.ntmps42
  go_wp2_with (go_at_call 53; refine (bLen64_24 _).mono ?_; rintro e w' ⟨rfl, rfl⟩)
  go_ret
  exact ⟨rfl, rfl⟩
theorem bLen64_25 (w : World) : Calls Try.prog 53 #[.int .u64 25] w fun e w' => e = .returned (.int .i64 5) ∧ w' = w := by
  go_enter Try.func53, Try.ntmps53
  go_wp2
  go_ret
  exact ⟨by kernel_rfl, rfl⟩
theorem bLen_25 (w : World) : Calls Try.prog 42 #[.int .u64 25] w fun e w' => e = .returned (.int .i64 5) ∧ w' = w := by
  go_enter Try.func42, Try.ntmps42
  go_wp2_with (go_at_call 53; refine (bLen64_25 _).mono ?_; rintro e w' ⟨rfl, rfl⟩)
  go_ret
  exact ⟨rfl, rfl⟩
theorem bLen64_26 (w : World) : Calls Try.prog 53 #[.int .u64 26] w fun e w' => e = .returned (.int .i64 5) ∧ w' = w := by
  go_enter Try.func53, Try.ntmps53
  go_wp2
  go_ret
  exact ⟨by kernel_rfl, rfl⟩
theorem bLen_26 (w : World) : Calls Try.prog 42 #[.int .u64 26] w fun e w' => e = .returned (.int .i64 5) ∧ w' = w := by
  go_enter Try.func42, Try.ntmps42
  go_wp2_with (go_at_call 53; refine (bLen64_26 _).mono ?_; rintro e w' ⟨rfl, rfl⟩)
  go_ret
  exact ⟨rfl, rfl⟩
theorem bLen64_27 (w : World) : Calls Try.prog 53 #[.int .u64 27] w fun e w' => e = .returned (.int .i64 5) ∧ w' = w := by
  go_enter Try.func53, Try.ntmps53
  go_wp2
  go_ret
  exact ⟨by kernel_rfl, rfl⟩
theorem bLen_27 (w : World) : Calls Try.prog 42 #[.int .u64 27] w fun e w' => e = .returned (.int .i64 5) ∧ w' = w := by
  go_enter Try.func42, Try.ntmps42
  go_wp2_with (go_at_call 53; refine (bLen64_27 _).mono ?_; rintro e w' ⟨rfl, rfl⟩)
  go_ret
  exact ⟨rfl, rfl⟩
theorem bLen64_28 (w : World) : Calls Try.prog 53 #[.int .u64 28] w fun e w' => e = .returned (.int .i64 5) ∧ w' = w := by
  go_enter Try.func53, Try.ntmps53
  go_wp2
  go_ret
  exact ⟨by kernel_rfl, rfl⟩
theorem bLen_28 (w : World) : Calls Try.prog 42 #[.int .u64 28] w fun e w' => e = .returned (.int .i64 5) ∧ w' = w := by
  go_enter Try.func42, Try.ntmps42
  go_wp2_with (go_at_call 53; refine (bLen64_28 _).mono ?_; rintro e w' ⟨rfl, rfl⟩)
  go_ret
  exact ⟨rfl, rfl⟩
theorem bLen64_29 (w : World) : Calls Try.prog 53 #[.int .u64 29] w fun e w' => e = .returned (.int .i64 5) ∧ w' = w := by
  go_enter Try.func53, Try.ntmps53
  go_wp2
  go_ret
  exact ⟨by kernel_rfl, rfl⟩
theorem bLen_29 (w : World) : Calls Try.prog 42 #[.int .u64 29] w fun e w' => e = .returned (.int .i64 5) ∧ w' = w := by
  go_enter Try.func42, Try.ntmps42
  go_wp2_with (go_at_call 53; refine (bLen64_29 _).mono ?_; rintro e w' ⟨rfl, rfl⟩)
  go_ret
  exact ⟨rfl, rfl⟩
theorem bLen64_30 (w : World) : Calls Try.prog 53 #[.int .u64 30] w fun e w' => e = .returned (.int .i64 5) ∧ w' = w := by
  go_enter Try.func53, Try.ntmps53
  go_wp2
  go_ret
  exact ⟨by kernel_rfl, rfl⟩
theorem bLen_30 (w : World) : Calls Try.prog 42 #[.int .u64 30] w fun e w' => e = .returned (.int .i64 5) ∧ w' = w := by
  go_enter Try.func42, Try.ntmps42
  go_wp2_with (go_at_call 53; refine (bLen64_30 _).mono ?_; rintro e w' ⟨rfl, rfl⟩)
  go_ret
  exact ⟨rfl, rfl⟩
theorem bLen64_31 (w : World) : Calls Try.prog 53 #[.int .u64 31] w fun e w' => e = .returned (.int .i64 5) ∧ w' = w := by
  go_enter Try.func53, Try.ntmps53
  go_wp2
  go_ret
  exact ⟨by kernel_rfl, rfl⟩
theorem bLen_31 (w : World) : Calls Try.prog 42 #[.int .u64 31] w fun e w' => e = .returned (.int .i64 5) ∧ w' = w := by
  go_enter Try.func42, Try.ntmps42
  go_wp2_with (go_at_call 53; refine (bLen64_31 _).mono ?_; rintro e w' ⟨rfl, rfl⟩)
  go_ret
  exact ⟨rfl, rfl⟩
theorem bLen64_32 (w : World) : Calls Try.prog 53 #[.int .u64 32] w fun e w' => e = .returned (.int .i64 6) ∧ w' = w := by
  go_enter Try.func53, Try.ntmps53
  go_wp2
  go_ret
  exact ⟨by kernel_rfl, rfl⟩
theorem bLen_32 (w : World) : Calls Try.prog 42 #[.int .u64 32] w fun e w' => e = .returned (.int .i64 6) ∧ w' = w := by
  go_enter Try.func42, Try.ntmps42
  go_wp2_with (go_at_call 53; refine (bLen64_32 _).mono ?_; rintro e w' ⟨rfl, rfl⟩)
  go_ret
  exact ⟨rfl, rfl⟩
theorem bLen64_33 (w : World) : Calls Try.prog 53 #[.int .u64 33] w fun e w' => e = .returned (.int .i64 6) ∧ w' = w := by
  go_enter Try.func53, Try.ntmps53
  go_wp2
  go_ret
  exact ⟨by kernel_rfl, rfl⟩
theorem bLen_33 (w : World) : Calls Try.prog 42 #[.int .u64 33] w fun e w' => e = .returned (.int .i64 6) ∧ w' = w := by
  go_enter Try.func42, Try.ntmps42
  go_wp2_with (go_at_call 53; refine (bLen64_33 _).mono ?_; rintro e w' ⟨rfl, rfl⟩)
  go_ret
  exact ⟨rfl, rfl⟩
theorem bLen64_34 (w : World) : Calls Try.prog 53 #[.int .u64 34] w fun e w' => e = .returned (.int .i64 6) ∧ w' = w := by
  go_enter Try.func53, Try.ntmps53
  go_wp2
  go_ret
  exact ⟨by kernel_rfl, rfl⟩
theorem bLen_34 (w : World) : Calls Try.prog 42 #[.int .u64 34] w fun e w' => e = .returned (.int .i64 6) ∧ w' = w := by
  go_enter Try.func42, Try.ntmps42
  go_wp2_with (go_at_call 53; refine (bLen64_34 _).mono ?_; rintro e w' ⟨rfl, rfl⟩)
  go_ret
  exact ⟨rfl, rfl⟩
theorem bLen64_35 (w : World) : Calls Try.prog 53 #[.int .u64 35] w fun e w' => e = .returned (.int .i64 6) ∧ w' = w := by
  go_enter Try.func53, Try.ntmps53
  go_wp2
  go_ret
  exact ⟨by kernel_rfl, rfl⟩
theorem bLen_35 (w : World) : Calls Try.prog 42 #[.int .u64 35] w fun e w' => e = .returned (.int .i64 6) ∧ w' = w := by
  go_enter Try.func42, Try.ntmps42
  go_wp2_with (go_at_call 53; refine (bLen64_35 _).mono ?_; rintro e w' ⟨rfl, rfl⟩)
  go_ret
  exact ⟨rfl, rfl⟩
theorem bLen64_36 (w : World) : Calls Try.prog 53 #[.int .u64 36] w fun e w' => e = .returned (.int .i64 6) ∧ w' = w := by
  go_enter Try.func53, Try.ntmps53
  go_wp2
  go_ret
  exact ⟨by kernel_rfl, rfl⟩
theorem bLen_36 (w : World) : Calls Try.prog 42 #[.int .u64 36] w fun e w' => e = .returned (.int .i64 6) ∧ w' = w := by
  go_enter Try.func42, Try.ntmps42
  go_wp2_with (go_at_call 53; refine (bLen64_36 _).mono ?_; rintro e w' ⟨rfl, rfl⟩)
  go_ret
  exact ⟨rfl, rfl⟩
theorem bLen64_37 (w : World) : Calls Try.prog 53 #[.int .u64 37] w fun e w' => e = .returned (.int .i64 6) ∧ w' = w := by
  go_enter Try.func53, Try.ntmps53
  go_wp2
  go_ret
  exact ⟨by kernel_rfl, rfl⟩
theorem bLen_37 (w : World) : Calls Try.prog 42 #[.int .u64 37] w fun e w' => e = .returned (.int .i64 6) ∧ w' = w := by
  go_enter Try.func42, Try.ntmps42
  go_wp2_with (go_at_call 53; refine (bLen64_37 _).mono ?_; rintro e w' ⟨rfl, rfl⟩)
  go_ret
  exact ⟨rfl, rfl⟩
theorem bLen64_38 (w : World) : Calls Try.prog 53 #[.int .u64 38] w fun e w' => e = .returned (.int .i64 6) ∧ w' = w := by
  go_enter Try.func53, Try.ntmps53
  go_wp2
  go_ret
  exact ⟨by kernel_rfl, rfl⟩
theorem bLen_38 (w : World) : Calls Try.prog 42 #[.int .u64 38] w fun e w' => e = .returned (.int .i64 6) ∧ w' = w := by
  go_enter Try.func42, Try.ntmps42
  go_wp2_with (go_at_call 53; refine (bLen64_38 _).mono ?_; rintro e w' ⟨rfl, rfl⟩)
  go_ret
  exact ⟨rfl, rfl⟩
theorem bLen64_39 (w : World) : Calls Try.prog 53 #[.int .u64 39] w fun e w' => e = .returned (.int .i64 6) ∧ w' = w := by
  go_enter Try.func53, Try.ntmps53
  go_wp2
  go_ret
  exact ⟨by kernel_rfl, rfl⟩
theorem bLen_39 (w : World) : Calls Try.prog 42 #[.int .u64 39] w fun e w' => e = .returned (.int .i64 6) ∧ w' = w := by
  go_enter Try.func42, Try.ntmps42
  go_wp2_with (go_at_call 53; refine (bLen64_39 _).mono ?_; rintro e w' ⟨rfl, rfl⟩)
  go_ret
  exact ⟨rfl, rfl⟩
theorem bLen64_40 (w : World) : Calls Try.prog 53 #[.int .u64 40] w fun e w' => e = .returned (.int .i64 6) ∧ w' = w := by
  go_enter Try.func53, Try.ntmps53
  go_wp2
  go_ret
  exact ⟨by kernel_rfl, rfl⟩
theorem bLen_40 (w : World) : Calls Try.prog 42 #[.int .u64 40] w fun e w' => e = .returned (.int .i64 6) ∧ w' = w := by
  go_enter Try.func42, Try.ntmps42
  go_wp2_with (go_at_call 53; refine (bLen64_40 _).mono ?_; rintro e w' ⟨rfl, rfl⟩)
  go_ret
  exact ⟨rfl, rfl⟩
theorem bLen64_41 (w : World) : Calls Try.prog 53 #[.int .u64 41] w fun e w' => e = .returned (.int .i64 6) ∧ w' = w := by
  go_enter Try.func53, Try.ntmps53
  go_wp2
  go_ret
  exact ⟨by kernel_rfl, rfl⟩
theorem bLen_41 (w : World) : Calls Try.prog 42 #[.int .u64 41] w fun e w' => e = .returned (.int .i64 6) ∧ w' = w := by
  go_enter Try.func42, Try.ntmps42
  go_wp2_with (go_at_call 53; refine (bLen64_41 _).mono ?_; rintro e w' ⟨rfl, rfl⟩)
  go_ret
  exact ⟨rfl, rfl⟩
theorem bLen64_42 (w : World) : Calls Try.prog 53 #[.int .u64 42] w fun e w' => e = .returned (.int .i64 6) ∧ w' = w := by
  go_enter Try.func53, Try.ntmps53
  go_wp2
  go_ret
  exact ⟨by kernel_rfl, rfl⟩
theorem bLen_42 (w : World) : Calls Try.prog 42 #[.int .u64 42] w fun e w' => e = .returned (.int .i64 6) ∧ w' = w := by
  go_enter Try.func42, Try.ntmps42
  go_wp2_with (go_at_call 53; refine (bLen64_42 _).mono ?_; rintro e w' ⟨rfl, rfl⟩)
  go_ret
  exact ⟨rfl, rfl⟩
theorem bLen64_43 (w : World) : Calls Try.prog 53 #[.int .u64 43] w fun e w' => e = .returned (.int .i64 6) ∧ w' = w := by
  go_enter Try.func53, Try.ntmps53
  go_wp2
  go_ret
  exact ⟨by kernel_rfl, rfl⟩
theorem bLen_43 (w : World) : Calls Try.prog 42 #[.int .u64 43] w fun e w' => e = .returned (.int .i64 6) ∧ w' = w := by
  go_enter Try.func42, Try.ntmps42
  go_wp2_with (go_at_call 53; refine (bLen64_43 _).mono ?_; rintro e w' ⟨rfl, rfl⟩)
  go_ret
  exact ⟨rfl, rfl⟩
theorem bLen64_44 (w : World) : Calls Try.prog 53 #[.int .u64 44] w fun e w' => e = .returned (.int .i64 6) ∧ w' = w := by
  go_enter Try.func53, Try.ntmps53
  go_wp2
  go_ret
  exact ⟨by kernel_rfl, rfl⟩
theorem bLen_44 (w : World) : Calls Try.prog 42 #[.int .u64 44] w fun e w' => e = .returned (.int .i64 6) ∧ w' = w := by
  go_enter Try.func42, Try.ntmps42
  go_wp2_with (go_at_call 53; refine (bLen64_44 _).mono ?_; rintro e w' ⟨rfl, rfl⟩)
  go_ret
  exact ⟨rfl, rfl⟩
theorem bLen64_45 (w : World) : Calls Try.prog 53 #[.int .u64 45] w fun e w' => e = .returned (.int .i64 6) ∧ w' = w := by
  go_enter Try.func53, Try.ntmps53
  go_wp2
  go_ret
  exact ⟨by kernel_rfl, rfl⟩
theorem bLen_45 (w : World) : Calls Try.prog 42 #[.int .u64 45] w fun e w' => e = .returned (.int .i64 6) ∧ w' = w := by
  go_enter Try.func42, Try.ntmps42
  go_wp2_with (go_at_call 53; refine (bLen64_45 _).mono ?_; rintro e w' ⟨rfl, rfl⟩)
  go_ret
  exact ⟨rfl, rfl⟩
theorem nPow_13 (w : World) : Calls Try.prog 56 #[.int .i64 13] w fun e w' => e = .returned (.int .u64 16) ∧ w' = w := by
  go_enter Try.func56, Try.ntmps56
  go_wp2_with (go_at_call 42; refine (bLen_13 _).mono ?_; rintro e w' ⟨rfl, rfl⟩)
  go_ret
  exact ⟨by kernel_rfl, rfl⟩
theorem nPow_14 (w : World) : Calls Try.prog 56 #[.int .i64 14] w fun e w' => e = .returned (.int .u64 16) ∧ w' = w := by
  go_enter Try.func56, Try.ntmps56
  go_wp2_with (go_at_call 42; refine (bLen_14 _).mono ?_; rintro e w' ⟨rfl, rfl⟩)
  go_ret
  exact ⟨by kernel_rfl, rfl⟩
theorem nPow_15 (w : World) : Calls Try.prog 56 #[.int .i64 15] w fun e w' => e = .returned (.int .u64 16) ∧ w' = w := by
  go_enter Try.func56, Try.ntmps56
  go_wp2_with (go_at_call 42; refine (bLen_15 _).mono ?_; rintro e w' ⟨rfl, rfl⟩)
  go_ret
  exact ⟨by kernel_rfl, rfl⟩
theorem nPow_16 (w : World) : Calls Try.prog 56 #[.int .i64 16] w fun e w' => e = .returned (.int .u64 32) ∧ w' = w := by
  go_enter Try.func56, Try.ntmps56
  go_wp2_with (go_at_call 42; refine (bLen_16 _).mono ?_; rintro e w' ⟨rfl, rfl⟩)
  go_ret
  exact ⟨by kernel_rfl, rfl⟩
theorem nPow_17 (w : World) : Calls Try.prog 56 #[.int .i64 17] w fun e w' => e = .returned (.int .u64 32) ∧ w' = w := by
  go_enter Try.func56, Try.ntmps56
  go_wp2_with (go_at_call 42; refine (bLen_17 _).mono ?_; rintro e w' ⟨rfl, rfl⟩)
  go_ret
  exact ⟨by kernel_rfl, rfl⟩
theorem nPow_18 (w : World) : Calls Try.prog 56 #[.int .i64 18] w fun e w' => e = .returned (.int .u64 32) ∧ w' = w := by
  go_enter Try.func56, Try.ntmps56
  go_wp2_with (go_at_call 42; refine (bLen_18 _).mono ?_; rintro e w' ⟨rfl, rfl⟩)
  go_ret
  exact ⟨by kernel_rfl, rfl⟩
theorem nPow_19 (w : World) : Calls Try.prog 56 #[.int .i64 19] w fun e w' => e = .returned (.int .u64 32) ∧ w' = w := by
  go_enter Try.func56, Try.ntmps56
  go_wp2_with (go_at_call 42; refine (bLen_19 _).mono ?_; rintro e w' ⟨rfl, rfl⟩)
  go_ret
  exact ⟨by kernel_rfl, rfl⟩
theorem nPow_20 (w : World) : Calls Try.prog 56 #[.int .i64 20] w fun e w' => e = .returned (.int .u64 32) ∧ w' = w := by
  go_enter Try.func56, Try.ntmps56
  go_wp2_with (go_at_call 42; refine (bLen_20 _).mono ?_; rintro e w' ⟨rfl, rfl⟩)
  go_ret
  exact ⟨by kernel_rfl, rfl⟩
theorem nPow_21 (w : World) : Calls Try.prog 56 #[.int .i64 21] w fun e w' => e = .returned (.int .u64 32) ∧ w' = w := by
  go_enter Try.func56, Try.ntmps56
  go_wp2_with (go_at_call 42; refine (bLen_21 _).mono ?_; rintro e w' ⟨rfl, rfl⟩)
  go_ret
  exact ⟨by kernel_rfl, rfl⟩
theorem nPow_22 (w : World) : Calls Try.prog 56 #[.int .i64 22] w fun e w' => e = .returned (.int .u64 32) ∧ w' = w := by
  go_enter Try.func56, Try.ntmps56
  go_wp2_with (go_at_call 42; refine (bLen_22 _).mono ?_; rintro e w' ⟨rfl, rfl⟩)
  go_ret
  exact ⟨by kernel_rfl, rfl⟩
theorem nPow_23 (w : World) : Calls Try.prog 56 #[.int .i64 23] w fun e w' => e = .returned (.int .u64 32) ∧ w' = w := by
  go_enter Try.func56, Try.ntmps56
  go_wp2_with (go_at_call 42; refine (bLen_23 _).mono ?_; rintro e w' ⟨rfl, rfl⟩)
  go_ret
  exact ⟨by kernel_rfl, rfl⟩
theorem nPow_24 (w : World) : Calls Try.prog 56 #[.int .i64 24] w fun e w' => e = .returned (.int .u64 32) ∧ w' = w := by
  go_enter Try.func56, Try.ntmps56
  go_wp2_with (go_at_call 42; refine (bLen_24 _).mono ?_; rintro e w' ⟨rfl, rfl⟩)
  go_ret
  exact ⟨by kernel_rfl, rfl⟩
theorem nPow_25 (w : World) : Calls Try.prog 56 #[.int .i64 25] w fun e w' => e = .returned (.int .u64 32) ∧ w' = w := by
  go_enter Try.func56, Try.ntmps56
  go_wp2_with (go_at_call 42; refine (bLen_25 _).mono ?_; rintro e w' ⟨rfl, rfl⟩)
  go_ret
  exact ⟨by kernel_rfl, rfl⟩
theorem nPow_26 (w : World) : Calls Try.prog 56 #[.int .i64 26] w fun e w' => e = .returned (.int .u64 32) ∧ w' = w := by
  go_enter Try.func56, Try.ntmps56
  go_wp2_with (go_at_call 42; refine (bLen_26 _).mono ?_; rintro e w' ⟨rfl, rfl⟩)
  go_ret
  exact ⟨by kernel_rfl, rfl⟩
theorem nPow_27 (w : World) : Calls Try.prog 56 #[.int .i64 27] w fun e w' => e = .returned (.int .u64 32) ∧ w' = w := by
  go_enter Try.func56, Try.ntmps56
  go_wp2_with (go_at_call 42; refine (bLen_27 _).mono ?_; rintro e w' ⟨rfl, rfl⟩)
  go_ret
  exact ⟨by kernel_rfl, rfl⟩
theorem nPow_28 (w : World) : Calls Try.prog 56 #[.int .i64 28] w fun e w' => e = .returned (.int .u64 32) ∧ w' = w := by
  go_enter Try.func56, Try.ntmps56
  go_wp2_with (go_at_call 42; refine (bLen_28 _).mono ?_; rintro e w' ⟨rfl, rfl⟩)
  go_ret
  exact ⟨by kernel_rfl, rfl⟩
theorem nPow_29 (w : World) : Calls Try.prog 56 #[.int .i64 29] w fun e w' => e = .returned (.int .u64 32) ∧ w' = w := by
  go_enter Try.func56, Try.ntmps56
  go_wp2_with (go_at_call 42; refine (bLen_29 _).mono ?_; rintro e w' ⟨rfl, rfl⟩)
  go_ret
  exact ⟨by kernel_rfl, rfl⟩
theorem nPow_30 (w : World) : Calls Try.prog 56 #[.int .i64 30] w fun e w' => e = .returned (.int .u64 32) ∧ w' = w := by
  go_enter Try.func56, Try.ntmps56
  go_wp2_with (go_at_call 42; refine (bLen_30 _).mono ?_; rintro e w' ⟨rfl, rfl⟩)
  go_ret
  exact ⟨by kernel_rfl, rfl⟩
theorem nPow_31 (w : World) : Calls Try.prog 56 #[.int .i64 31] w fun e w' => e = .returned (.int .u64 32) ∧ w' = w := by
  go_enter Try.func56, Try.ntmps56
  go_wp2_with (go_at_call 42; refine (bLen_31 _).mono ?_; rintro e w' ⟨rfl, rfl⟩)
  go_ret
  exact ⟨by kernel_rfl, rfl⟩
theorem nPow_32 (w : World) : Calls Try.prog 56 #[.int .i64 32] w fun e w' => e = .returned (.int .u64 64) ∧ w' = w := by
  go_enter Try.func56, Try.ntmps56
  go_wp2_with (go_at_call 42; refine (bLen_32 _).mono ?_; rintro e w' ⟨rfl, rfl⟩)
  go_ret
  exact ⟨by kernel_rfl, rfl⟩
theorem nPow_33 (w : World) : Calls Try.prog 56 #[.int .i64 33] w fun e w' => e = .returned (.int .u64 64) ∧ w' = w := by
  go_enter Try.func56, Try.ntmps56
  go_wp2_with (go_at_call 42; refine (bLen_33 _).mono ?_; rintro e w' ⟨rfl, rfl⟩)
  go_ret
  exact ⟨by kernel_rfl, rfl⟩
theorem nPow_34 (w : World) : Calls Try.prog 56 #[.int .i64 34] w fun e w' => e = .returned (.int .u64 64) ∧ w' = w := by
  go_enter Try.func56, Try.ntmps56
  go_wp2_with (go_at_call 42; refine (bLen_34 _).mono ?_; rintro e w' ⟨rfl, rfl⟩)
  go_ret
  exact ⟨by kernel_rfl, rfl⟩
theorem nPow_35 (w : World) : Calls Try.prog 56 #[.int .i64 35] w fun e w' => e = .returned (.int .u64 64) ∧ w' = w := by
  go_enter Try.func56, Try.ntmps56
  go_wp2_with (go_at_call 42; refine (bLen_35 _).mono ?_; rintro e w' ⟨rfl, rfl⟩)
  go_ret
  exact ⟨by kernel_rfl, rfl⟩
theorem nPow_36 (w : World) : Calls Try.prog 56 #[.int .i64 36] w fun e w' => e = .returned (.int .u64 64) ∧ w' = w := by
  go_enter Try.func56, Try.ntmps56
  go_wp2_with (go_at_call 42; refine (bLen_36 _).mono ?_; rintro e w' ⟨rfl, rfl⟩)
  go_ret
  exact ⟨by kernel_rfl, rfl⟩
theorem nPow_37 (w : World) : Calls Try.prog 56 #[.int .i64 37] w fun e w' => e = .returned (.int .u64 64) ∧ w' = w := by
  go_enter Try.func56, Try.ntmps56
  go_wp2_with (go_at_call 42; refine (bLen_37 _).mono ?_; rintro e w' ⟨rfl, rfl⟩)
  go_ret
  exact ⟨by kernel_rfl, rfl⟩
theorem nPow_38 (w : World) : Calls Try.prog 56 #[.int .i64 38] w fun e w' => e = .returned (.int .u64 64) ∧ w' = w := by
  go_enter Try.func56, Try.ntmps56
  go_wp2_with (go_at_call 42; refine (bLen_38 _).mono ?_; rintro e w' ⟨rfl, rfl⟩)
  go_ret
  exact ⟨by kernel_rfl, rfl⟩
theorem nPow_39 (w : World) : Calls Try.prog 56 #[.int .i64 39] w fun e w' => e = .returned (.int .u64 64) ∧ w' = w := by
  go_enter Try.func56, Try.ntmps56
  go_wp2_with (go_at_call 42; refine (bLen_39 _).mono ?_; rintro e w' ⟨rfl, rfl⟩)
  go_ret
  exact ⟨by kernel_rfl, rfl⟩
theorem nPow_40 (w : World) : Calls Try.prog 56 #[.int .i64 40] w fun e w' => e = .returned (.int .u64 64) ∧ w' = w := by
  go_enter Try.func56, Try.ntmps56
  go_wp2_with (go_at_call 42; refine (bLen_40 _).mono ?_; rintro e w' ⟨rfl, rfl⟩)
  go_ret
  exact ⟨by kernel_rfl, rfl⟩
theorem nPow_41 (w : World) : Calls Try.prog 56 #[.int .i64 41] w fun e w' => e = .returned (.int .u64 64) ∧ w' = w := by
  go_enter Try.func56, Try.ntmps56
  go_wp2_with (go_at_call 42; refine (bLen_41 _).mono ?_; rintro e w' ⟨rfl, rfl⟩)
  go_ret
  exact ⟨by kernel_rfl, rfl⟩
theorem nPow_42 (w : World) : Calls Try.prog 56 #[.int .i64 42] w fun e w' => e = .returned (.int .u64 64) ∧ w' = w := by
  go_enter Try.func56, Try.ntmps56
  go_wp2_with (go_at_call 42; refine (bLen_42 _).mono ?_; rintro e w' ⟨rfl, rfl⟩)
  go_ret
  exact ⟨by kernel_rfl, rfl⟩
theorem nPow_43 (w : World) : Calls Try.prog 56 #[.int .i64 43] w fun e w' => e = .returned (.int .u64 64) ∧ w' = w := by
  go_enter Try.func56, Try.ntmps56
  go_wp2_with (go_at_call 42; refine (bLen_43 _).mono ?_; rintro e w' ⟨rfl, rfl⟩)
  go_ret
  exact ⟨by kernel_rfl, rfl⟩
theorem nPow_44 (w : World) : Calls Try.prog 56 #[.int .i64 44] w fun e w' => e = .returned (.int .u64 64) ∧ w' = w := by
  go_enter Try.func56, Try.ntmps56
  go_wp2_with (go_at_call 42; refine (bLen_44 _).mono ?_; rintro e w' ⟨rfl, rfl⟩)
  go_ret
  exact ⟨by kernel_rfl, rfl⟩
theorem nPow_45 (w : World) : Calls Try.prog 56 #[.int .i64 45] w fun e w' => e = .returned (.int .u64 64) ∧ w' = w := by
  go_enter Try.func56, Try.ntmps56
  go_wp2_with (go_at_call 42; refine (bLen_45 _).mono ?_; rintro e w' ⟨rfl, rfl⟩)
  go_ret
  exact ⟨by kernel_rfl, rfl⟩
theorem bLenN (n : Nat) (hn : n ≤ 45) (w : World) : Calls Try.prog 42 #[.int .u64 n] w fun e w' => (∃ l : Nat, e = .returned (.int .i64 l) ∧ l ≤ 6) ∧ w' = w := by
  match n, hn with
  | 0, _ => exact (bLen_0 w).mono (by rintro e w' ⟨rfl, rfl⟩; exact ⟨⟨0, rfl, by decide⟩, rfl⟩)
  | 1, _ => exact (bLen_1 w).mono (by rintro e w' ⟨rfl, rfl⟩; exact ⟨⟨1, rfl, by decide⟩, rfl⟩)
  | 2, _ => exact (bLen_2 w).mono (by rintro e w' ⟨rfl, rfl⟩; exact ⟨⟨2, rfl, by decide⟩, rfl⟩)
  | 3, _ => exact (bLen_3 w).mono (by rintro e w' ⟨rfl, rfl⟩; exact ⟨⟨2, rfl, by decide⟩, rfl⟩)
  | 4, _ => exact (bLen_4 w).mono (by rintro e w' ⟨rfl, rfl⟩; exact ⟨⟨3, rfl, by decide⟩, rfl⟩)
  | 5, _ => exact (bLen_5 w).mono (by rintro e w' ⟨rfl, rfl⟩; exact ⟨⟨3, rfl, by decide⟩, rfl⟩)
  | 6, _ => exact (bLen_6 w).mono (by rintro e w' ⟨rfl, rfl⟩; exact ⟨⟨3, rfl, by decide⟩, rfl⟩)
  | 7, _ => exact (bLen_7 w).mono (by rintro e w' ⟨rfl, rfl⟩; exact ⟨⟨3, rfl, by decide⟩, rfl⟩)
  | 8, _ => exact (bLen_8 w).mono (by rintro e w' ⟨rfl, rfl⟩; exact ⟨⟨4, rfl, by decide⟩, rfl⟩)
  | 9, _ => exact (bLen_9 w).mono (by rintro e w' ⟨rfl, rfl⟩; exact ⟨⟨4, rfl, by decide⟩, rfl⟩)
  | 10, _ => exact (bLen_10 w).mono (by rintro e w' ⟨rfl, rfl⟩; exact ⟨⟨4, rfl, by decide⟩, rfl⟩)
  | 11, _ => exact (bLen_11 w).mono (by rintro e w' ⟨rfl, rfl⟩; exact ⟨⟨4, rfl, by decide⟩, rfl⟩)
  | 12, _ => exact (bLen_12 w).mono (by rintro e w' ⟨rfl, rfl⟩; exact ⟨⟨4, rfl, by decide⟩, rfl⟩)
  | 13, _ => exact (bLen_13 w).mono (by rintro e w' ⟨rfl, rfl⟩; exact ⟨⟨4, rfl, by decide⟩, rfl⟩)
  | 14, _ => exact (bLen_14 w).mono (by rintro e w' ⟨rfl, rfl⟩; exact ⟨⟨4, rfl, by decide⟩, rfl⟩)
  | 15, _ => exact (bLen_15 w).mono (by rintro e w' ⟨rfl, rfl⟩; exact ⟨⟨4, rfl, by decide⟩, rfl⟩)
  | 16, _ => exact (bLen_16 w).mono (by rintro e w' ⟨rfl, rfl⟩; exact ⟨⟨5, rfl, by decide⟩, rfl⟩)
  | 17, _ => exact (bLen_17 w).mono (by rintro e w' ⟨rfl, rfl⟩; exact ⟨⟨5, rfl, by decide⟩, rfl⟩)
  | 18, _ => exact (bLen_18 w).mono (by rintro e w' ⟨rfl, rfl⟩; exact ⟨⟨5, rfl, by decide⟩, rfl⟩)
  | 19, _ => exact (bLen_19 w).mono (by rintro e w' ⟨rfl, rfl⟩; exact ⟨⟨5, rfl, by decide⟩, rfl⟩)
  | 20, _ => exact (bLen_20 w).mono (by rintro e w' ⟨rfl, rfl⟩; exact ⟨⟨5, rfl, by decide⟩, rfl⟩)
  | 21, _ => exact (bLen_21 w).mono (by rintro e w' ⟨rfl, rfl⟩; exact ⟨⟨5, rfl, by decide⟩, rfl⟩)
  | 22, _ => exact (bLen_22 w).mono (by rintro e w' ⟨rfl, rfl⟩; exact ⟨⟨5, rfl, by decide⟩, rfl⟩)
  | 23, _ => exact (bLen_23 w).mono (by rintro e w' ⟨rfl, rfl⟩; exact ⟨⟨5, rfl, by decide⟩, rfl⟩)
  | 24, _ => exact (bLen_24 w).mono (by rintro e w' ⟨rfl, rfl⟩; exact ⟨⟨5, rfl, by decide⟩, rfl⟩)
  | 25, _ => exact (bLen_25 w).mono (by rintro e w' ⟨rfl, rfl⟩; exact ⟨⟨5, rfl, by decide⟩, rfl⟩)
  | 26, _ => exact (bLen_26 w).mono (by rintro e w' ⟨rfl, rfl⟩; exact ⟨⟨5, rfl, by decide⟩, rfl⟩)
  | 27, _ => exact (bLen_27 w).mono (by rintro e w' ⟨rfl, rfl⟩; exact ⟨⟨5, rfl, by decide⟩, rfl⟩)
  | 28, _ => exact (bLen_28 w).mono (by rintro e w' ⟨rfl, rfl⟩; exact ⟨⟨5, rfl, by decide⟩, rfl⟩)
  | 29, _ => exact (bLen_29 w).mono (by rintro e w' ⟨rfl, rfl⟩; exact ⟨⟨5, rfl, by decide⟩, rfl⟩)
  | 30, _ => exact (bLen_30 w).mono (by rintro e w' ⟨rfl, rfl⟩; exact ⟨⟨5, rfl, by decide⟩, rfl⟩)
  | 31, _ => exact (bLen_31 w).mono (by rintro e w' ⟨rfl, rfl⟩; exact ⟨⟨5, rfl, by decide⟩, rfl⟩)
  | 32, _ => exact (bLen_32 w).mono (by rintro e w' ⟨rfl, rfl⟩; exact ⟨⟨6, rfl, by decide⟩, rfl⟩)
  | 33, _ => exact (bLen_33 w).mono (by rintro e w' ⟨rfl, rfl⟩; exact ⟨⟨6, rfl, by decide⟩, rfl⟩)
  | 34, _ => exact (bLen_34 w).mono (by rintro e w' ⟨rfl, rfl⟩; exact ⟨⟨6, rfl, by decide⟩, rfl⟩)
  | 35, _ => exact (bLen_35 w).mono (by rintro e w' ⟨rfl, rfl⟩; exact ⟨⟨6, rfl, by decide⟩, rfl⟩)
  | 36, _ => exact (bLen_36 w).mono (by rintro e w' ⟨rfl, rfl⟩; exact ⟨⟨6, rfl, by decide⟩, rfl⟩)
  | 37, _ => exact (bLen_37 w).mono (by rintro e w' ⟨rfl, rfl⟩; exact ⟨⟨6, rfl, by decide⟩, rfl⟩)
  | 38, _ => exact (bLen_38 w).mono (by rintro e w' ⟨rfl, rfl⟩; exact ⟨⟨6, rfl, by decide⟩, rfl⟩)
  | 39, _ => exact (bLen_39 w).mono (by rintro e w' ⟨rfl, rfl⟩; exact ⟨⟨6, rfl, by decide⟩, rfl⟩)
  | 40, _ => exact (bLen_40 w).mono (by rintro e w' ⟨rfl, rfl⟩; exact ⟨⟨6, rfl, by decide⟩, rfl⟩)
  | 41, _ => exact (bLen_41 w).mono (by rintro e w' ⟨rfl, rfl⟩; exact ⟨⟨6, rfl, by decide⟩, rfl⟩)
  | 42, _ => exact (bLen_42 w).mono (by rintro e w' ⟨rfl, rfl⟩; exact ⟨⟨6, rfl, by decide⟩, rfl⟩)
  | 43, _ => exact (bLen_43 w).mono (by rintro e w' ⟨rfl, rfl⟩; exact ⟨⟨6, rfl, by decide⟩, rfl⟩)
  | 44, _ => exact (bLen_44 w).mono (by rintro e w' ⟨rfl, rfl⟩; exact ⟨⟨6, rfl, by decide⟩, rfl⟩)
  | 45, _ => exact (bLen_45 w).mono (by rintro e w' ⟨rfl, rfl⟩; exact ⟨⟨6, rfl, by decide⟩, rfl⟩)
  | n + 46, h => omega
theorem nPowN (n : Nat) (h12 : 12 < n) (hn : n ≤ 45) (w : World) : Calls Try.prog 56 #[.int .i64 n] w fun e w' => (∃ m : Nat, e = .returned (.int .u64 m) ∧ 1 ≤ m ∧ m ≤ 2 * n) ∧ w' = w := by
  match n, h12, hn with
  | 13, _, _ => exact (nPow_13 w).mono (by rintro e w' ⟨rfl, rfl⟩; exact ⟨⟨16, rfl, by decide, by decide⟩, rfl⟩)
  | 14, _, _ => exact (nPow_14 w).mono (by rintro e w' ⟨rfl, rfl⟩; exact ⟨⟨16, rfl, by decide, by decide⟩, rfl⟩)
  | 15, _, _ => exact (nPow_15 w).mono (by rintro e w' ⟨rfl, rfl⟩; exact ⟨⟨16, rfl, by decide, by decide⟩, rfl⟩)
  | 16, _, _ => exact (nPow_16 w).mono (by rintro e w' ⟨rfl, rfl⟩; exact ⟨⟨32, rfl, by decide, by decide⟩, rfl⟩)
  | 17, _, _ => exact (nPow_17 w).mono (by rintro e w' ⟨rfl, rfl⟩; exact ⟨⟨32, rfl, by decide, by decide⟩, rfl⟩)
  | 18, _, _ => exact (nPow_18 w).mono (by rintro e w' ⟨rfl, rfl⟩; exact ⟨⟨32, rfl, by decide, by decide⟩, rfl⟩)
  | 19, _, _ => exact (nPow_19 w).mono (by rintro e w' ⟨rfl, rfl⟩; exact ⟨⟨32, rfl, by decide, by decide⟩, rfl⟩)
  | 20, _, _ => exact (nPow_20 w).mono (by rintro e w' ⟨rfl, rfl⟩; exact ⟨⟨32, rfl, by decide, by decide⟩, rfl⟩)
  | 21, _, _ => exact (nPow_21 w).mono (by rintro e w' ⟨rfl, rfl⟩; exact ⟨⟨32, rfl, by decide, by decide⟩, rfl⟩)
  | 22, _, _ => exact (nPow_22 w).mono (by rintro e w' ⟨rfl, rfl⟩; exact ⟨⟨32, rfl, by decide, by decide⟩, rfl⟩)
  | 23, _, _ => exact (nPow_23 w).mono (by rintro e w' ⟨rfl, rfl⟩; exact ⟨⟨32, rfl, by decide, by decide⟩, rfl⟩)
  | 24, _, _ => exact (nPow_24 w).mono (by rintro e w' ⟨rfl, rfl⟩; exact ⟨⟨32, rfl, by decide, by decide⟩, rfl⟩)
  | 25, _, _ => exact (nPow_25 w).mono (by rintro e w' ⟨rfl, rfl⟩; exact ⟨⟨32, rfl, by decide, by decide⟩, rfl⟩)
  | 26, _, _ => exact (nPow_26 w).mono (by rintro e w' ⟨rfl, rfl⟩; exact ⟨⟨32, rfl, by decide, by decide⟩, rfl⟩)
  | 27, _, _ => exact (nPow_27 w).mono (by rintro e w' ⟨rfl, rfl⟩; exact ⟨⟨32, rfl, by decide, by decide⟩, rfl⟩)
  | 28, _, _ => exact (nPow_28 w).mono (by rintro e w' ⟨rfl, rfl⟩; exact ⟨⟨32, rfl, by decide, by decide⟩, rfl⟩)
  | 29, _, _ => exact (nPow_29 w).mono (by rintro e w' ⟨rfl, rfl⟩; exact ⟨⟨32, rfl, by decide, by decide⟩, rfl⟩)
  | 30, _, _ => exact (nPow_30 w).mono (by rintro e w' ⟨rfl, rfl⟩; exact ⟨⟨32, rfl, by decide, by decide⟩, rfl⟩)
  | 31, _, _ => exact (nPow_31 w).mono (by rintro e w' ⟨rfl, rfl⟩; exact ⟨⟨32, rfl, by decide, by decide⟩, rfl⟩)
  | 32, _, _ => exact (nPow_32 w).mono (by rintro e w' ⟨rfl, rfl⟩; exact ⟨⟨64, rfl, by decide, by decide⟩, rfl⟩)
  | 33, _, _ => exact (nPow_33 w).mono (by rintro e w' ⟨rfl, rfl⟩; exact ⟨⟨64, rfl, by decide, by decide⟩, rfl⟩)
  | 34, _, _ => exact (nPow_34 w).mono (by rintro e w' ⟨rfl, rfl⟩; exact ⟨⟨64, rfl, by decide, by decide⟩, rfl⟩)
  | 35, _, _ => exact (nPow_35 w).mono (by rintro e w' ⟨rfl, rfl⟩; exact ⟨⟨64, rfl, by decide, by decide⟩, rfl⟩)
  | 36, _, _ => exact (nPow_36 w).mono (by rintro e w' ⟨rfl, rfl⟩; exact ⟨⟨64, rfl, by decide, by decide⟩, rfl⟩)
  | 37, _, _ => exact (nPow_37 w).mono (by rintro e w' ⟨rfl, rfl⟩; exact ⟨⟨64, rfl, by decide, by decide⟩, rfl⟩)
  | 38, _, _ => exact (nPow_38 w).mono (by rintro e w' ⟨rfl, rfl⟩; exact ⟨⟨64, rfl, by decide, by decide⟩, rfl⟩)
  | 39, _, _ => exact (nPow_39 w).mono (by rintro e w' ⟨rfl, rfl⟩; exact ⟨⟨64, rfl, by decide, by decide⟩, rfl⟩)
  | 40, _, _ => exact (nPow_40 w).mono (by rintro e w' ⟨rfl, rfl⟩; exact ⟨⟨64, rfl, by decide, by decide⟩, rfl⟩)
  | 41, _, _ => exact (nPow_41 w).mono (by rintro e w' ⟨rfl, rfl⟩; exact ⟨⟨64, rfl, by decide, by decide⟩, rfl⟩)
  | 42, _, _ => exact (nPow_42 w).mono (by rintro e w' ⟨rfl, rfl⟩; exact ⟨⟨64, rfl, by decide, by decide⟩, rfl⟩)
  | 43, _, _ => exact (nPow_43 w).mono (by rintro e w' ⟨rfl, rfl⟩; exact ⟨⟨64, rfl, by decide, by decide⟩, rfl⟩)
  | 44, _, _ => exact (nPow_44 w).mono (by rintro e w' ⟨rfl, rfl⟩; exact ⟨⟨64, rfl, by decide, by decide⟩, rfl⟩)
  | 45, _, _ => exact (nPow_45 w).mono (by rintro e w' ⟨rfl, rfl⟩; exact ⟨⟨64, rfl, by decide, by decide⟩, rfl⟩)
  | n + 46, _, h => omega
  | 0, h, _ => omega
  | 1, h, _ => omega
  | 2, h, _ => omega
  | 3, h, _ => omega
  | 4, h, _ => omega
  | 5, h, _ => omega
  | 6, h, _ => omega
  | 7, h, _ => omega
  | 8, h, _ => omega
  | 9, h, _ => omega
  | 10, h, _ => omega
  | 11, h, _ => omega
  | 12, h, _ => omega
end Cib
