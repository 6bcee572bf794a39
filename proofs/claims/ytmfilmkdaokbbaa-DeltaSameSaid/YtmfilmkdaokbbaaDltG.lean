/- What must come at any rate: goes. -/
import Derived.Test.YtmfilmkdaokbbaaDltP
import Derived.Test.YtmfilmkdaokbbaaCodLit
set_option linter.unusedVariables false
set_option linter.unusedSimpArgs false
set_option maxRecDepth 40000
namespace Cib
open Go Go.RowKit Go.Proofs
theorem dlOff0 (v : Value) (w : World) : Calls Try.prog 17 #[.pointer none, v] w (AnyI [] 1 w) := by
  go_enter Try.func17, Try.ntmps17
  go_wp2_with fail
  refine (dlNone0 w).mono ?_
  rintro e w1 ⟨rfl, rfl⟩
  go_wp2
  first | go_ret2 | go_ret
  exact ⟨_, 0, _, rfl, rfl, Nat.zero_le _, Rd.nil _ _ _, Below.refl _ _⟩
set_option maxHeartbeats 3200000 in
theorem goes (w : World) : Calls Try.prog 11 #[] w fun e w' => e = .returned (.bool true) ∧ Below w.heap.size w w' := by
  go_enter Try.func11, Try.ntmps11
  go_wp2_with fail
  refine (fldNewA _).mono ?_
  rintro e w1 ⟨rfl, hf, hz, hb0⟩
  have hb1 := hb0 w.heap.size w (Nat.le_refl _) (Below.refl _ _)
  have HN1 := Lib.hid (cdNew w.heap.size 1 1 (by decide) (by decide) (by decide) w1 hf)
  clear hb0 hz hf
  go_wp2_with fail
  refine HN1.out.mono ?_
  rintro e w2 ⟨g2, A2, c2, rfl, hg2, hC2, hs2⟩
  have HB2 := Lib.hid (hs2.below hb1 (Nat.le_refl _) hb1.size)
  have HC2 := Lib.hid hC2
  clear hs2 HN1 hb1 hg2 hC2
  have hr5 : Rd (w2.alloc (.cells #[.int .u8 5] 5)) (w2.heap.size + 1) (some ⟨w2.heap.size, 0, none⟩) ([(5 : UInt8)].map bv) := Rd.new w2 _ _ _ rfl
  have hr6 := Rd.new (w2.alloc (.cells #[.int .u8 5] 5)) #[.int .u8 6] 5 (0, 0) (vs := [(6 : UInt8)].map bv) rfl
  have hb6 : Below w2.heap.size w2 ((w2.alloc (.cells #[.int .u8 5] 5)).alloc (.cells #[.int .u8 6] 5)) := ((Below.refl _ _).alloc (Nat.le_refl _) _).alloc (by simp) _
  obtain ⟨hr, hR, hal⟩ := lit1 ((w2.alloc (.cells #[.int .u8 5] 5)).alloc (.cells #[.int .u8 6] 5)) #[.int .u8 5] [5] 1 rfl rfl (by decide)
  have hbl := hb6.trans (hal.mono (by simp; omega))
  have hr5' := ((hr5.alloc (by simp) (.cells #[.int .u8 6] 5)).below (hal.mono (by simp))).more (show w2.heap.size + 1 ≤ w2.heap.size + 1 + 1 + 1 + 1 by omega)
  have hr6' := (hr6.below (hal.mono (by simp))).more (show (w2.alloc (.cells #[.int .u8 5] 5)).heap.size + 1 ≤ w2.heap.size + 1 + 1 + 1 + 1 by simp)
  simp only [World.size_alloc] at hr hR hr5' hr6' hbl
  have HU := Lib.hid (dlUpdate (HC2.out.below hbl) 0 (by decide) _ (some ⟨w2.heap.size, 0, none⟩) (some ⟨w2.heap.size + 1, 0, none⟩) 1 1 1 [5] [6] hr5' hr6' rfl rfl (by simp) (by decide) _ (some ⟨w2.heap.size + 1 + 1 + 1, 0, none⟩) 1 hr hR rfl (by intro r hr; rw [List.mem_singleton] at hr; subst hr; rfl))
  have hD : Hid (Dlt.upd 1 1 0 [5] [6] (bss [(⟨some ⟨w2.heap.size + 1 + 1, 0, none⟩, 1, 1, [5]⟩ : RowB)]) = [[6]]) := by show Dlt.upd 1 1 0 [5] [6] [[5]] = [[6]]; decide +kernel
  rw [hD.out] at HU
  have HBL := Lib.hid hbl
  clear hr hR hal hr5 hr6 hr5' hr6' hb6 hbl hD
  go_wp2_with fail
  refine HU.out.mono ?_
  rintro e w3 ⟨A3, n3, c3, L3, rfl, hL3, hn3, ho3, hR3, hb3⟩
  have HB23 := Lib.hid (HBL.out.via hb3)
  have HB3 := Lib.hid (HB2.out.via HB23.out)
  have HC3 := Lib.hid (HC2.out.below HB23.out)
  obtain ⟨⟨rA3, rn3, rc3, rb3⟩, rfl, hrb⟩ := one_row hL3
  simp only at hrb
  subst hrb
  obtain rfl : n3 = 1 := hn3.symm
  have HP3 := Lib.hid (Rd.of_own ho3)
  have HQ3 := Lib.hid (hR3.at.get (k := 0) (by show 0 < 1; decide))
  obtain rfl : rn3 = 1 := HQ3.out.len.symm
  clear HU HBL ho3 hR3 hb3 HB2 HB23 HC2 hL3 hn3
  obtain ⟨hr, hR, hal⟩ := lit2 w3 #[.int .u8 5] #[.int .u8 6] [5] [6] 1 1 rfl rfl (by decide) rfl rfl (by decide)
  have HO1 := Lib.hid (dlOff (HC3.out.below hal) _ _ (some ⟨w3.heap.size + 1 + 1, 0, none⟩) 2 2 hr hR (by simp) rfl (by decide) (by decide) (by intro r hr; simp only [List.mem_cons, List.not_mem_nil, or_false] at hr; rcases hr with rfl | rfl <;> (show 1 ≤ 1000000000; decide)) rfl rfl)
  have hD1 : Hid (Dlt.off 1 (bss [(⟨some ⟨w3.heap.size, 0, none⟩, 1, 1, [5]⟩ : RowB), ⟨some ⟨w3.heap.size + 1, 0, none⟩, 1, 1, [6]⟩]) 1 = [1]) := by show Dlt.off 1 [[5], [6]] 1 = [1]; decide +kernel
  rw [hD1.out] at HO1
  have HAL := Lib.hid hal
  clear hr hR hal hD1
  go_wp2_with fail
  refine HO1.out.mono ?_
  rintro e w4 ⟨A4, n4, c4, rfl, hn4, hn41, hr4, hb4⟩
  have HB34 := Lib.hid (HAL.out.via hb4)
  have HB4 := Lib.hid (HB3.out.via HB34.out)
  have HC4 := Lib.hid (HC3.out.below HB34.out)
  have hp4 := HP3.out.below HB34.out
  have hq4 := HQ3.out.below HB34.out
  obtain rfl : n4 = 1 := hn4.symm
  obtain ⟨ad3, rfl, _, hc3⟩ := hp4.row (k := 0) (by show 0 < 1; decide)
  obtain ⟨ad4, rfl, hc4⟩ := rd_int hr4 (k := 0) (by show 0 < 1; decide)
  simp only [List.getElem_cons_zero] at hc3 hc4
  rw [addr_add_zero] at hc3 hc4
  have hc4' : w4.cell? ad4 = some (.int .i64 1) := hc4
  have hcv4 : (convert 22 9 (.slice rA3 1 rc3)).run Try.prog w4 = .ok (.string ⟨#[6]⟩) w4 := str_run (w := w4) (wS := w4) hq4.rd (Below.refl _ _) HB34.out.size rfl rc3
  obtain ⟨hr, hR, hal⟩ := lit2 w4 #[.int .u8 5] #[.int .u8 5] [5] [5] 1 1 rfl rfl (by decide) rfl rfl (by decide)
  have HO2 := dlOff (HC4.out.below hal) _ _ (some ⟨w4.heap.size + 1 + 1, 0, none⟩) 2 2 hr hR (by simp) rfl (by decide) (by decide) (by intro r hr; simp only [List.mem_cons, List.not_mem_nil, or_false] at hr; rcases hr with rfl | rfl <;> (show 1 ≤ 1000000000; decide)) rfl rfl
  have hD2 : Hid (Dlt.off 1 (bss [(⟨some ⟨w4.heap.size, 0, none⟩, 1, 1, [5]⟩ : RowB), ⟨some ⟨w4.heap.size + 1, 0, none⟩, 1, 1, [5]⟩]) 1 = []) := by show Dlt.off 1 [[5], [5]] 1 = []; decide +kernel
  rw [hD2.out] at HO2
  have HH2 := Lib.hid (dlHolds _ _ _ _ true rfl HO2)
  have HAL4 := Lib.hid hal
  have HH0 := Lib.hid (fun V => dlHolds (.pointer none) (.slice none 0 0) [] 1 false rfl (dlOff0 (.slice none 0 0) V))
  clear hr hR hal hD2 HO2 HO1 HAL hp4 hq4 hc4 hr4 hb4 HP3 HQ3 HC3 HC4 HB3 HB34 hn4
  go_wp2_with fail
  refine HH2.out.mono ?_
  rintro e w5 ⟨rfl, hb5⟩
  have HB5 := Lib.hid (HB4.out.via (HAL4.out.via hb5))
  clear hb5
  go_wp2_with fail
  refine (HH0.out _).mono ?_
  rintro e w6 ⟨rfl, hb6⟩
  have HB6 := Lib.hid (HB5.out.via hb6)
  clear hb6
  go_wp2
  go_ret
  exact ⟨rfl, HB6.out⟩
end Cib
