/- The page's examples of layer 3 come out right, whatever the input. -/
import Derived.Test.YtmmfnapogdfiaaaFldA
import Derived.Test.YtmmfnapogdfiaaaFldE
set_option linter.unusedVariables false
set_option linter.unusedSimpArgs false
set_option maxRecDepth 20000
namespace Cib
open Go Go.RowKit Go.Proofs

theorem wf_u8 {n : Int} (h : (Lit.int .u8 n).wf = true) : ∃ m : Nat, n = (m : Int) ∧ m < 256 := by
  simp only [Lit.wf, Bool.and_eq_true, decide_eq_true_eq] at h
  have h1 : IntKind.u8.min = 0 := rfl
  have h2 : IntKind.u8.max = 255 := rfl
  exact ⟨n.toNat, by omega, by omega⟩
theorem wf_i64 {n : Int} (h : (Lit.int .i64 n).wf = true) : -9223372036854775808 ≤ n ∧ n ≤ 9223372036854775807 := by
  simp only [Lit.wf, Bool.and_eq_true, decide_eq_true_eq] at h
  have h1 : IntKind.i64.min = -9223372036854775808 := rfl
  have h2 : IntKind.i64.max = 9223372036854775807 := rfl
  omega
theorem fex1 : divA 3 3 = (1, 0) := by decide +kernel
theorem fex2 : powA 2 255 = (1, 0) := by decide +kernel
theorem fex3 : Fld.gmul 2 128 = 29 := by decide +kernel
theorem reckons (w : World) :
    Calls Try.prog 14 #[] w fun e w' => e = .returned (.bool true) ∧ Below w.heap.size w w' := by
  go_enter Try.func14, Try.ntmps14
  go_wp2_with fail
  refine (fldNewA _).mono ?_
  rintro e w1 ⟨rfl, hf, hs, hb⟩
  have hb1 := hb w.heap.size w (Nat.le_refl _) (Below.refl _ _)
  clear hb
  go_wp2_with fail
  refine (fldDivA w.heap.size 3 3 (by decide) (by decide) _ hf).mono ?_
  rintro e w2 ⟨rfl, ha2⟩
  have hb2 := ha2.below hb1 (Nat.le_refl _)
  rw [fex1]
  unfold pairV
  go_wp2_with fail
  refine (fldPowA w.heap.size 2 255 (by decide) _ ha2.full.fld (by decide)).mono ?_
  rintro e w3 ⟨rfl, ha3⟩
  have hb3 := ha3.below hb2 (Nat.le_refl _)
  rw [fex2]
  unfold pairV
  go_wp2_with fail
  refine (fldMulA w.heap.size 2 128 (by decide) (by decide) _ ha3.full.fld).mono ?_
  rintro e w4 ⟨rfl, ha4⟩
  have hb4 := ha4.below hb3 (Nat.le_refl _)
  rw [fex3]
  go_wp2
  go_ret
  exact ⟨rfl, hb4⟩
end Cib
