/- The law FieldHolds. -/
import Derived.Test.YtmmfnapogdfiaaaFldL1
set_option linter.unusedVariables false
set_option linter.unusedSimpArgs false
set_option maxRecDepth 40000
namespace Cib
open Go Go.RowKit Go.Proofs

set_option maxHeartbeats 4000000 in
theorem lawHolds (a b c : Nat) (ha : a < 256) (hb : b < 256) (hc : c < 256) (w : World) :
    Calls Try.prog 5 #[.int .u8 (a : Int), .int .u8 (b : Int), .int .u8 (c : Int)] w fun e w' => e = .returned (.bool true) ∧ Below w.heap.size w w' := by
  obtain ⟨p, hp, HP⟩ : ∃ p, p < 256 ∧ Hid (Fld.gmul a b = p) := ⟨_, Fld.gmul_lt ha, rfl⟩
  have HP2 : Hid (Fld.gmul b a = p) := (Fld.mul_comm hb ha).trans HP.out
  obtain ⟨q, HQ⟩ : ∃ q, Hid (Fld.gmul p c = q) := ⟨_, rfl⟩
  obtain ⟨r, hr, HR⟩ : ∃ r, r < 256 ∧ Hid (Fld.gmul b c = r) := ⟨_, Fld.gmul_lt hb, rfl⟩
  have HQ2 : Hid (Fld.gmul a r = q) := by
    show Fld.gmul a r = q
    rw [← HQ.out, ← HP.out, ← HR.out, Fld.mul_assoc ha hb hc]
  obtain ⟨x, hx, HX⟩ : ∃ x, x < 256 ∧ Hid (b ^^^ c = x) := ⟨_, Fld.xor_lt hb hc, rfl⟩
  have hxi : bits .xor .u8 (b : Int) (c : Int) = (x : Int) := by rw [u8_xor_nat _ _ hb hc, HX.out]
  obtain ⟨s, hs, HS⟩ : ∃ s, s < 256 ∧ Hid (Fld.gmul a x = s) := ⟨_, Fld.gmul_lt ha, rfl⟩
  obtain ⟨t, ht, HT⟩ : ∃ t, t < 256 ∧ Hid (Fld.gmul a c = t) := ⟨_, Fld.gmul_lt ha, rfl⟩
  have hsi : bits .xor .u8 (p : Int) (t : Int) = (s : Int) := by
    rw [u8_xor_nat _ _ hp ht, ← HP.out, ← HT.out, ← HS.out, ← HX.out, Fld.mul_xor]
  have H1 : Hid (Fld.gmul a 1 = a) := Fld.mul_one ha
  have H0 : Hid (Fld.gmul a 0 = 0) := Fld.mul_zero a
  have HD : b ≠ 0 → ∃ x y : Nat, x < 256 ∧ y < 256 ∧ Hid (divA a b = (x, 0)) ∧ Hid (divA 1 b = (y, 0)) ∧ Hid (Fld.gmul x b = a) ∧ Hid (Fld.gmul a y = x) ∧ Hid (Fld.gmul y b = 1) ∧ (((a : Int) == 0) == ((x : Int) == 0)) = true := by
    intro h0
    have e1 := Fld.div_mul ha hb h0
    have e2 := Fld.div_mul (a := 1) (by decide) hb h0
    refine ⟨Fld.gdiv a b, Fld.gdiv 1 b, Fld.gdiv_lt _ _, Fld.gdiv_lt _ _, if_neg h0, if_neg h0, e1, ?_, e2, ?_⟩
    · exact Fld.div_unique ha hb (Fld.gmul_lt ha) h0 (by rw [Fld.mul_assoc ha (Fld.gdiv_lt _ _) hb, e2, Fld.mul_one ha])
    · by_cases hz : a = 0
      · subst hz
        rw [show Fld.gdiv 0 b = 0 from if_pos rfl]
        rfl
      · have hx0 : Fld.gdiv a b ≠ 0 := fun h => hz (by rw [← e1, h, Fld.zero_mul])
        have g1 : ((a : Int) == 0) = false := by simp; omega
        have g2 : ((Fld.gdiv a b : Int) == 0) = false := by simp; omega
        rw [g1, g2]
        rfl
  have HD := Lib.hid HD
  clear HX
  go_enter Try.func5, Try.ntmps5
  go_wp2_with fail
  refine (fldNewA _).mono ?_
  rintro e w1 ⟨rfl, hf, hz, hb0⟩
  have hb1 := hb0 w.heap.size w (Nat.le_refl _) (Below.refl _ _)
  clear hb0 hz
  have hf1 := Lib.hid hf
  clear hf
  go_wp2_with fail
  refine (fldMulA w.heap.size a b ha hb _ hf1.out).mono ?_
  rintro e w2 ⟨rfl, ha2⟩
  replace hb1 := ha2.below hb1 (Nat.le_refl _)
  have hf2 := Lib.hid ha2.full.fld
  clear ha2 hf1
  rw [HP.out]
  go_wp2_with fail
  refine (fldMulA w.heap.size b a hb ha _ hf2.out).mono ?_
  rintro e w3 ⟨rfl, ha2⟩
  replace hb1 := ha2.below hb1 (Nat.le_refl _)
  have hf3 := Lib.hid ha2.full.fld
  clear ha2 hf2
  rw [HP2.out]
  go_wp2_with fail
  refine (fldMulA w.heap.size a b ha hb _ hf3.out).mono ?_
  rintro e w4 ⟨rfl, ha2⟩
  replace hb1 := ha2.below hb1 (Nat.le_refl _)
  have hf4 := Lib.hid ha2.full.fld
  clear ha2 hf3
  rw [HP.out]
  go_wp2_with fail
  refine (fldMulA w.heap.size p c hp hc _ hf4.out).mono ?_
  rintro e w5 ⟨rfl, ha2⟩
  replace hb1 := ha2.below hb1 (Nat.le_refl _)
  have hf5 := Lib.hid ha2.full.fld
  clear ha2 hf4
  rw [HQ.out]
  go_wp2_with fail
  refine (fldMulA w.heap.size b c hb hc _ hf5.out).mono ?_
  rintro e w6 ⟨rfl, ha2⟩
  replace hb1 := ha2.below hb1 (Nat.le_refl _)
  have hf6 := Lib.hid ha2.full.fld
  clear ha2 hf5
  rw [HR.out]
  go_wp2_with fail
  refine (fldMulA w.heap.size a r ha hr _ hf6.out).mono ?_
  rintro e w7 ⟨rfl, ha2⟩
  replace hb1 := ha2.below hb1 (Nat.le_refl _)
  have hf7 := Lib.hid ha2.full.fld
  clear ha2 hf6
  rw [HQ2.out]
  go_wp2_with fail
  refine (fldMulA w.heap.size a x ha hx _ hf7.out).mono ?_
  rintro e w8 ⟨rfl, ha2⟩
  replace hb1 := ha2.below hb1 (Nat.le_refl _)
  have hf8 := Lib.hid ha2.full.fld
  clear ha2 hf7
  rw [HS.out]
  go_wp2_with fail
  refine (fldMulA w.heap.size a b ha hb _ hf8.out).mono ?_
  rintro e w9 ⟨rfl, ha2⟩
  replace hb1 := ha2.below hb1 (Nat.le_refl _)
  have hf9 := Lib.hid ha2.full.fld
  clear ha2 hf8
  rw [HP.out]
  go_wp2_with fail
  refine (fldMulA w.heap.size a c ha hc _ hf9.out).mono ?_
  rintro e w10 ⟨rfl, ha2⟩
  replace hb1 := ha2.below hb1 (Nat.le_refl _)
  have hf10 := Lib.hid ha2.full.fld
  clear ha2 hf9
  rw [HT.out]
  go_wp2_with fail
  refine (fldMulA w.heap.size a 1 ha (by decide) _ hf10.out).mono ?_
  rintro e w11 ⟨rfl, ha2⟩
  replace hb1 := ha2.below hb1 (Nat.le_refl _)
  have hf11 := Lib.hid ha2.full.fld
  clear ha2 hf10
  rw [H1.out]
  go_wp2_with fail
  refine (fldMulA w.heap.size a 0 ha (by decide) _ hf11.out).mono ?_
  rintro e w12 ⟨rfl, ha2⟩
  replace hb1 := ha2.below hb1 (Nat.le_refl _)
  have hf12 := Lib.hid ha2.full.fld
  clear ha2 hf11
  rw [H0.out]
  go_wp2_with fail
  refine (fldDivA w.heap.size a b ha hb _ hf12.out).mono ?_
  rintro e w13 ⟨rfl, ha2⟩
  replace hb1 := ha2.below hb1 (Nat.le_refl _)
  have hf13 := Lib.hid ha2.full.fld
  clear ha2 hf12
  by_cases hbz : b = 0
  · have HV : Hid (divA a b = (0, 2)) := if_pos hbz
    have hbz' : ((b : Int) == 0) = true := by simp; omega
    clear hbz
    rw [HV.out]
    unfold pairV
    go_wp2_with fail
    refine (reckons _).mono ?_
    rintro e w14 ⟨rfl, hb5⟩
    have hb6 := hb1.via hb5
    go_wp2
    go_ret
    exact ⟨rfl, hb6⟩
  · obtain ⟨x', y, hx', hy, HV, HV2, HM1, HM2, HM3, hbb⟩ := HD.out hbz
    have hbz' : ((b : Int) == 0) = false := by simp; omega
    clear hbz
    rw [HV.out]
    unfold pairV
    go_wp2_with fail
    refine (fldDivA w.heap.size 1 b (by decide) hb _ hf13.out).mono ?_
    rintro e w14 ⟨rfl, ha2⟩
    replace hb1 := ha2.below hb1 (Nat.le_refl _)
    have hf14 := Lib.hid ha2.full.fld
    clear ha2 hf13
    rw [HV2.out]
    unfold pairV
    go_wp2_with fail
    refine (fldMulA w.heap.size x' b hx' hb _ hf14.out).mono ?_
    rintro e w15 ⟨rfl, ha2⟩
    replace hb1 := ha2.below hb1 (Nat.le_refl _)
    have hf15 := Lib.hid ha2.full.fld
    clear ha2 hf14
    rw [HM1.out]
    go_wp2_with fail
    refine (fldMulA w.heap.size a y ha hy _ hf15.out).mono ?_
    rintro e w16 ⟨rfl, ha2⟩
    replace hb1 := ha2.below hb1 (Nat.le_refl _)
    have hf16 := Lib.hid ha2.full.fld
    clear ha2 hf15
    rw [HM2.out]
    go_wp2_with fail
    refine (fldMulA w.heap.size y b hy hb _ hf16.out).mono ?_
    rintro e w17 ⟨rfl, ha2⟩
    replace hb1 := ha2.below hb1 (Nat.le_refl _)
    have hf17 := Lib.hid ha2.full.fld
    clear ha2 hf16
    rw [HM3.out]
    go_wp2_with fail
    refine (reckons _).mono ?_
    rintro e w18 ⟨rfl, hb5⟩
    have hb6 := hb1.via hb5
    go_wp2
    go_ret
    exact ⟨rfl, hb6⟩
end Cib
