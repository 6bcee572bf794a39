/- The law FieldGrows. -/
import Derived.Test.YtmmfnapogdfiaaaFldL2
set_option linter.unusedVariables false
set_option linter.unusedSimpArgs false
set_option maxRecDepth 40000
namespace Cib
open Go Go.RowKit Go.Proofs

theorem pw_mod_mul (l j : Nat) : Fld.pw (l * j) = Fld.pw (l * (j % 255)) := by
  rw [Fld.pw_mod (l * j), Fld.pw_mod (l * (j % 255)), Nat.mul_mod l (j % 255), Nat.mod_mod, ← Nat.mul_mod]
theorem powA_pw {a : Nat} (ha : a < 256) (h0 : a ≠ 0) (n : Int) : powA a n = (Fld.pw (Fld.lg 255 a * (n % 255).toNat), 0) := by
  unfold powA
  rw [if_neg h0, Fld.gpow_log ha h0, ← Fld.pw_mod]
set_option maxHeartbeats 4000000 in
theorem lawGrows (a : Nat) (n m : Int) (ha : a < 256) (hn : -9223372036854775808 ≤ n ∧ n ≤ 9223372036854775807) (hm : -9223372036854775808 ≤ m ∧ m ≤ 9223372036854775807) (w : World) :
    Calls Try.prog 6 #[.int .u8 (a : Int), .int .i64 n, .int .i64 m] w fun e w' => e = .returned (.bool true) ∧ Below w.heap.size w w' := by
  by_cases k0 : a = 0
  · subst k0
    go_enter Try.func6, Try.ntmps6
    go_wp2_with (go_at_call 14; refine (reckons _).mono ?_; rintro e w6 ⟨rfl, hb5⟩)
    go_ret
    exact ⟨rfl, hb5⟩
  have k0' : ((a : Int) == 0) = false := by simp; omega
  have HP := Lib.hid (powA_pw ha k0)
  have HO : Hid (Fld.pw (Fld.lg 255 a * ((1 : Int) % 255).toNat) = a) := by
    show Fld.pw (Fld.lg 255 a * 1) = a
    rw [Nat.mul_one, Fld.pw_log ha k0]
  clear k0
  by_cases k1 : n < -1000000
  · clear HP HO
    go_enter Try.func6, Try.ntmps6
    go_wp2_with (go_at_call 14; refine (reckons _).mono ?_; rintro e w6 ⟨rfl, hb5⟩)
    go_ret
    exact ⟨rfl, hb5⟩
  by_cases k2 : 1000000 < n
  · clear HP HO
    go_enter Try.func6, Try.ntmps6
    go_wp2_with (go_at_call 14; refine (reckons _).mono ?_; rintro e w6 ⟨rfl, hb5⟩)
    go_ret
    exact ⟨rfl, hb5⟩
  by_cases k3 : m < -1000000
  · clear HP HO
    go_enter Try.func6, Try.ntmps6
    go_wp2_with (go_at_call 14; refine (reckons _).mono ?_; rintro e w6 ⟨rfl, hb5⟩)
    go_ret
    exact ⟨rfl, hb5⟩
  by_cases k4 : 1000000 < m
  · clear HP HO
    go_enter Try.func6, Try.ntmps6
    go_wp2_with (go_at_call 14; refine (reckons _).mono ?_; rintro e w6 ⟨rfl, hb5⟩)
    go_ret
    exact ⟨rfl, hb5⟩
  have HS : Hid (Fld.gmul (Fld.pw (Fld.lg 255 a * (n % 255).toNat)) (Fld.pw (Fld.lg 255 a * (m % 255).toNat)) = Fld.pw (Fld.lg 255 a * ((n + m) % 255).toNat)) := by
    show Fld.gmul _ _ = _
    rw [Fld.pw_pw, ← Nat.mul_add, pw_mod_mul _ ((n % 255).toNat + (m % 255).toNat)]
    rw [show ((n % 255).toNat + (m % 255).toNat) % 255 = ((n + m) % 255).toNat from by omega]
  have HI : Hid (Fld.gmul (Fld.pw (Fld.lg 255 a * (n % 255).toNat)) (Fld.pw (Fld.lg 255 a * (-n % 255).toNat)) = 1) := by
    show Fld.gmul _ _ = _
    rw [Fld.pw_pw, ← Nat.mul_add, pw_mod_mul _ ((n % 255).toNat + (-n % 255).toNat)]
    rw [show ((n % 255).toNat + (-n % 255).toNat) % 255 = 0 from by omega, Nat.mul_zero]
    rfl
  obtain ⟨x, hx, HX⟩ : ∃ x, x < 256 ∧ Hid (Fld.pw (Fld.lg 255 a * (n % 255).toNat) = x) := ⟨_, Fld.pw_lt _, rfl⟩
  obtain ⟨y, hy, HY⟩ : ∃ x, x < 256 ∧ Hid (Fld.pw (Fld.lg 255 a * (m % 255).toNat) = x) := ⟨_, Fld.pw_lt _, rfl⟩
  obtain ⟨z, hz, HZ⟩ : ∃ x, x < 256 ∧ Hid (Fld.pw (Fld.lg 255 a * ((n + m) % 255).toNat) = x) := ⟨_, Fld.pw_lt _, rfl⟩
  obtain ⟨v, hv, HV⟩ : ∃ x, x < 256 ∧ Hid (Fld.pw (Fld.lg 255 a * (-n % 255).toNat) = x) := ⟨_, Fld.pw_lt _, rfl⟩
  have P1 : Hid (powA a n = (x, 0)) := by show powA a n = _; rw [HP.out, HX.out]
  have P2 : Hid (powA a m = (y, 0)) := by show powA a m = _; rw [HP.out, HY.out]
  have P3 : Hid (powA a (n + m) = (z, 0)) := by show powA a (n + m) = _; rw [HP.out, HZ.out]
  have P4 : Hid (powA a (-n) = (v, 0)) := by show powA a (-n) = _; rw [HP.out, HV.out]
  have P5 : Hid (powA a 1 = (a, 0)) := by show powA a 1 = _; rw [HP.out, HO.out]
  replace HS : Hid (Fld.gmul x y = z) := by show Fld.gmul x y = z; rw [← HX.out, ← HY.out, ← HZ.out, HS.out]
  replace HI : Hid (Fld.gmul x v = 1) := by show Fld.gmul x v = 1; rw [← HX.out, ← HV.out, HI.out]
  clear HX HY HZ HV HP HO
  go_enter Try.func6, Try.ntmps6
  go_wp2_with fail
  refine (fldNewA _).mono ?_
  rintro e w1 ⟨rfl, hf, hz', hb0⟩
  have hb1 := hb0 w.heap.size w (Nat.le_refl _) (Below.refl _ _)
  clear hb0 hz'
  have hf1 := Lib.hid hf
  clear hf
  go_wp2_with fail
  refine (fldPowA w.heap.size a n ha _ hf1.out hn).mono ?_
  rintro e w2 ⟨rfl, ha2⟩
  replace hb1 := ha2.below hb1 (Nat.le_refl _)
  have hf2 := Lib.hid ha2.full.fld
  clear ha2 hf1
  rw [P1.out]
  unfold pairV
  go_wp2_with fail
  refine (fldPowA w.heap.size a m ha _ hf2.out hm).mono ?_
  rintro e w3 ⟨rfl, ha2⟩
  replace hb1 := ha2.below hb1 (Nat.le_refl _)
  have hf3 := Lib.hid ha2.full.fld
  clear ha2 hf2
  rw [P2.out]
  unfold pairV
  go_wp2_with fail
  refine (fldPowA w.heap.size a (n + m) ha _ hf3.out (by omega)).mono ?_
  rintro e w4 ⟨rfl, ha2⟩
  replace hb1 := ha2.below hb1 (Nat.le_refl _)
  have hf4 := Lib.hid ha2.full.fld
  clear ha2 hf3
  rw [P3.out]
  unfold pairV
  go_wp2_with fail
  refine (fldPowA w.heap.size a (-n) ha _ hf4.out (by omega)).mono ?_
  rintro e w5 ⟨rfl, ha2⟩
  replace hb1 := ha2.below hb1 (Nat.le_refl _)
  have hf5 := Lib.hid ha2.full.fld
  clear ha2 hf4
  rw [P4.out]
  unfold pairV
  go_wp2_with fail
  refine (fldPowA w.heap.size a 1 ha _ hf5.out (by omega)).mono ?_
  rintro e w6 ⟨rfl, ha2⟩
  replace hb1 := ha2.below hb1 (Nat.le_refl _)
  have hf6 := Lib.hid ha2.full.fld
  clear ha2 hf5
  rw [P5.out]
  unfold pairV
  go_wp2_with fail
  refine (fldMulA w.heap.size x y hx hy _ hf6.out).mono ?_
  rintro e w7 ⟨rfl, ha2⟩
  replace hb1 := ha2.below hb1 (Nat.le_refl _)
  have hf7 := Lib.hid ha2.full.fld
  clear ha2 hf6
  rw [HS.out]
  go_wp2_with fail
  refine (fldMulA w.heap.size x v hx hv _ hf7.out).mono ?_
  rintro e w8 ⟨rfl, ha2⟩
  replace hb1 := ha2.below hb1 (Nat.le_refl _)
  have hf8 := Lib.hid ha2.full.fld
  clear ha2 hf7
  rw [HI.out]
  go_wp2_with fail
  refine (reckons _).mono ?_
  rintro e w18 ⟨rfl, hb5⟩
  have hb6 := hb1.via hb5
  go_wp2
  go_ret
  exact ⟨rfl, hb6⟩
end Cib
