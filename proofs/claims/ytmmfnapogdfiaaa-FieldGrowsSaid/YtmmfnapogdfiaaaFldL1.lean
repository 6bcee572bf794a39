/- The laws FieldMuls and FieldPowers. -/
import Derived.Test.YtmmfnapogdfiaaaFldLaw
set_option linter.unusedVariables false
set_option linter.unusedSimpArgs false
set_option maxRecDepth 20000
namespace Cib
open Go Go.RowKit Go.Proofs

theorem wf_u8 {n : Int} (h : (Lit.int .u8 n).wf = true) : ∃ m : Nat, n = (m : Int) ∧ m < 256 := by
  simp only [Lit.wf, Bool.and_eq_true, decide_eq_true_eq] at h
  have h1 : IntKind.u8.min = 0 := rfl
  have h2 : IntKind.u8.max = 255 := rfl
  exact ⟨n.toNat, by omega, by omega⟩
theorem wf_i64 {n : Int} (h : (Lit.int .i64 n).wf = true) : -9223372036854775808 ≤ n ∧ n ≤ 9223372036854775807 := by
  simp only [Lit.wf, Bool.and_eq_true, decide_eq_true_eq] at h
  have h1 : IntKind.i64.min = -9223372036854775808 := rfl
  have h2 : IntKind.i64.max = 9223372036854775807 := rfl
  omega

theorem lawMuls (a b : Nat) (ha : a < 256) (hb : b < 256) (w : World) :
    Calls Try.prog 3 #[.int .u8 (a : Int), .int .u8 (b : Int)] w fun e w' => e = .returned (.bool true) ∧ Below w.heap.size w w' := by
  obtain ⟨x, e, HV⟩ : ∃ x e, Hid (divA a b = (x, e)) := ⟨_, _, rfl⟩
  go_enter Try.func3, Try.ntmps3
  go_wp2_with fail
  refine (fldNewA _).mono ?_
  rintro e w1 ⟨rfl, hf, hs, hb0⟩
  have hb1 := hb0 w.heap.size w (Nat.le_refl _) (Below.refl _ _)
  clear hb0
  go_wp2_with fail
  refine (fldDivA w.heap.size a b ha hb _ hf).mono ?_
  rintro e w2 ⟨rfl, ha2⟩
  have hb2 := ha2.below hb1 (Nat.le_refl _)
  rw [HV.out]
  unfold pairV
  go_wp2_with fail
  refine (refDiv3 a b ha hb _).mono ?_
  rintro e w3 ⟨rfl, rfl⟩
  rw [HV.out]
  unfold pairV
  go_wp2_with fail
  refine (fldMulA w.heap.size a b ha hb _ ha2.full.fld).mono ?_
  rintro e w4 ⟨rfl, ha4⟩
  have hb4 := ha4.below hb2 (Nat.le_refl _)
  go_wp2_with fail
  refine (refMul3 a b ha hb _).mono ?_
  rintro e w5 ⟨rfl, rfl⟩
  go_wp2_with fail
  refine (reckons _).mono ?_
  rintro e w6 ⟨rfl, hb5⟩
  have hb6 := hb4.via hb5
  go_wp2
  go_ret
  exact ⟨rfl, hb6⟩
theorem lawPowers (a : Nat) (n : Int) (ha : a < 256) (hn : -9223372036854775808 ≤ n ∧ n ≤ 9223372036854775807) (w : World) :
    Calls Try.prog 4 #[.int .u8 (a : Int), .int .i64 n] w fun e w' => e = .returned (.bool true) ∧ Below w.heap.size w w' := by
  obtain ⟨x, e, HV⟩ : ∃ x e, Hid (powA a n = (x, e)) := ⟨_, _, rfl⟩
  go_enter Try.func4, Try.ntmps4
  go_wp2_with fail
  refine (fldNewA _).mono ?_
  rintro e w1 ⟨rfl, hf, hs, hb0⟩
  have hb1 := hb0 w.heap.size w (Nat.le_refl _) (Below.refl _ _)
  clear hb0
  go_wp2_with fail
  refine (fldPowA w.heap.size a n ha _ hf hn).mono ?_
  rintro e w2 ⟨rfl, ha2⟩
  have hb2 := ha2.below hb1 (Nat.le_refl _)
  rw [HV.out]
  unfold pairV
  go_wp2_with fail
  refine (refPow3 a n ha _ hn).mono ?_
  rintro e w3 ⟨rfl, rfl⟩
  rw [HV.out]
  unfold pairV
  go_wp2_with fail
  refine (reckons _).mono ?_
  rintro e w6 ⟨rfl, hb5⟩
  have hb6 := hb2.via hb5
  go_wp2
  go_ret
  exact ⟨rfl, hb6⟩
end Cib
