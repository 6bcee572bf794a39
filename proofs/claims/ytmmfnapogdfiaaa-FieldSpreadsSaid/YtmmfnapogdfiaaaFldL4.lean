/- The law FieldSpreads. -/
import Derived.Test.YtmmfnapogdfiaaaFldLaw
import Derived.Test.YtmmfnapogdfiaaaFldK
import Derived.Test.YtmmfnapogdfiaaaReg
set_option linter.unusedVariables false
set_option linter.unusedSimpArgs false
set_option maxRecDepth 40000
namespace Cib
open Go Go.RowKit Go.Proofs

set_option maxHeartbeats 4000000 in
theorem lawSpreads (a b : Nat) (ha : a < 256) (hb : b < 256) (A : Option Addr) (cap : Nat) (row : List UInt8) (w : World) (h : Rd w w.heap.size A (row.map bv)) (hcap : row.length ≤ cap) (hcm : cap ≤ maxLen) :
    Calls Try.prog 7 #[.int .u8 (a : Int), .int .u8 (b : Int), .slice A row.length cap] w fun e w' => e = .returned (.bool true) ∧ Below w.heap.size w w' := by
  have hcm' := hcm
  unfold maxLen at hcm'
  by_cases hlt : 2000 < row.length
  · go_enter Try.func7, Try.ntmps7
    go_wp2_with fail
    refine (reckons _).mono ?_
    rintro e w' ⟨rfl, hb⟩
    go_wp2_with fail
    go_ret
    exact ⟨rfl, hb⟩
  obtain ⟨x, hx, HX⟩ : ∃ x, x < 256 ∧ Hid (a ^^^ b = x) := ⟨_, Fld.xor_lt ha hb, rfl⟩
  have hxi : bits .xor .u8 (a : Int) (b : Int) = (x : Int) := by rw [u8_xor_nat _ _ ha hb, HX.out]
  have HL1 : Hid (foB b row (scB a row) = scB x row) := by (show _ = _; rw [foB_scB ha hb, HX.out])
  have HL2 : Hid (foB a row (scB a row) = List.replicate row.length 0) := by (show _ = _; rw [foB_scB ha ha, Nat.xor_self, scB_zero])
  have HL3 : Hid (scB 1 row = row) := scB_one row
  have HSL : ∀ c, Hid ((scB c row).length = row.length) := fun c => scB_length c row
  clear HX
  go_enter Try.func7, Try.ntmps7
  go_wp2_with fail
  refine (fldNewA _).mono ?_
  rintro e w1 ⟨rfl, hf, hz, hb0⟩
  have hb1 := hb0 w.heap.size w (Nat.le_refl _) (Below.refl _ _)
  clear hb0 hz
  go_wp2_with fail
  refine (fldScale w.heap.size a ha A cap row _ hf w.heap.size (fun w' h' => h'.rd (h.below hb1) (Nat.le_refl _)) rfl hb1.size (by omega)).mono ?_
  rintro e w2 ⟨A2, n2, c2, rfl, hn2, ho2, hs2⟩
  have HN2 := Lib.hid (hn2.symm.trans (HSL a).out)
  have hn2' : n2 = row.length := HN2.out
  clear hn2
  subst hn2'
  replace hb1 := hs2.below hb1 (Nat.le_refl _) hb1.size
  have HF := Lib.hid hs2.full
  clear hs2 hf
  go_wp2_with fail
  refine (fldFoldF w.heap.size b hb A cap row A2 c2 (scB a row) _ HF.out _ _ (h.below hb1) (Rd.of_own ho2) rfl (HSL a).out hb1.size (Nat.le_refl _) (by omega) (by omega) hcap).mono ?_
  rintro e w3 ⟨A3, n3, c3, rfl, hn3, ho3, hb3⟩
  rw [HL1.out] at hn3 ho3
  have HN3 := Lib.hid hn3
  clear hn3 ho2
  replace hb1 := hb1.via hb3
  replace HF := Lib.hid (HF.out.on hb3)
  have hr3 := Rd.of_own ho3
  clear ho3 hb3
  go_wp2_with fail
  refine (fldScaleF w.heap.size x hx A cap row _ HF.out _ (h.below hb1) rfl hb1.size (by omega)).mono ?_
  rintro e w4 ⟨A4, n4, c4, rfl, hn4, ho4, hb4⟩
  have HN4 := Lib.hid hn4
  clear hn4
  replace hb1 := hb1.via hb4
  replace HF := Lib.hid (HF.out.on hb4)
  replace hr3 := (hr3.below hb4).more hb4.size
  have hr4 := Rd.of_own ho4
  clear ho4 hb4
  go_wp2_with fail
  refine (fldScaleF w.heap.size a ha A cap row _ HF.out _ (h.below hb1) rfl hb1.size (by omega)).mono ?_
  rintro e w5 ⟨A5, n5, c5, rfl, hn5, ho5, hb5⟩
  have HN5 := Lib.hid (hn5.symm.trans (HSL a).out)
  have hn5' : n5 = row.length := HN5.out
  clear hn5
  subst hn5'
  replace hb1 := hb1.via hb5
  replace HF := Lib.hid (HF.out.on hb5)
  replace hr3 := (hr3.below hb5).more hb5.size
  replace hr4 := (hr4.below hb5).more hb5.size
  clear hb5
  go_wp2_with fail
  refine (fldFoldF w.heap.size a ha A cap row A5 c5 (scB a row) _ HF.out _ _ (h.below hb1) (Rd.of_own ho5) rfl (HSL a).out hb1.size (Nat.le_refl _) (by omega) (by omega) hcap).mono ?_
  rintro e w6 ⟨A6, n6, c6, rfl, hn6, ho6, hb6⟩
  rw [HL2.out, List.length_replicate] at hn6
  subst hn6
  rw [HL2.out] at ho6
  replace hb1 := hb1.via hb6
  replace HF := Lib.hid (HF.out.on hb6)
  replace hr3 := (hr3.below hb6).more hb6.size
  replace hr4 := (hr4.below hb6).more hb6.size
  have hr6 := Rd.of_own ho6
  clear ho6 ho5 hb6 HL1 HL2
  go_wp2_with fail
  go_loop [11] (fun i => ∃ k : Nat, k ≤ row.length ∧ i = .int .i64 k) (fun i => row.length - (intOf i).toNat)
  case atStart => exact ⟨0, Nat.zero_le _, rfl⟩
  case round =>
    obtain ⟨k, hk, rfl⟩ := hrel
    by_cases hkl : k < row.length
    · obtain ⟨ad, rfl, hB, hc⟩ := hr6.byte (k := k) (by rw [List.length_replicate]; exact hkl)
      rw [List.getElem_replicate] at hc
      change _ = some (Value.int .u8 0) at hc
      go_wp2_with fail
      go_round
      case rel => exact ⟨k + 1, by omega, by go_num⟩
      case measure => simp [intOf]; omega
    · obtain rfl : k = row.length := by omega
      go_wp2_with fail
      refine wp_region_held_drew (S := (fun w' => Below (World.heap (w6.drew)).size (w6.drew) w')) (by kernel_rfl) (by exact Below.refl _ _) (fun _ => ?_)
      refine wpAnyH_take (i := 0) (v := ?_) rfl (by kernel_rfl) (by kernel_rfl) (by kernel_rfl) (fun _ _ _ h => h) (Or.inl ⟨by rfl, ?_⟩) (Below.refl _ _) ?_
      rotate_left
      · intro wS hSw
        go_simp
        try with_reducible rfl
      try simp only [List.getElem_toArray, List.getElem_cons_zero, List.getElem_cons_succ, Act.put, List.setIfInBounds_toArray, List.set_cons_zero, List.set_cons_succ]
      refine wpAnyH_take (i := 1) (v := ?_) rfl (by kernel_rfl) (by kernel_rfl) (by kernel_rfl) (fun _ _ _ h => h) (Or.inl ⟨by rfl, ?_⟩) (Below.refl _ _) ?_
      rotate_left
      · intro wS hSw
        go_simp
        try with_reducible rfl
      try simp only [List.getElem_toArray, List.getElem_cons_zero, List.getElem_cons_succ, Act.put, List.setIfInBounds_toArray, List.set_cons_zero, List.set_cons_succ]
      refine wpAnyH_take (i := 2) (v := ?_) rfl (by kernel_rfl) (by kernel_rfl) (by kernel_rfl) (fun _ _ _ h => h) (Or.inl ⟨by rfl, ?_⟩) (Below.refl _ _) ?_
      rotate_left
      · intro wS hSw
        go_simp
        try with_reducible rfl
      try simp only [List.getElem_toArray, List.getElem_cons_zero, List.getElem_cons_succ, Act.put, List.setIfInBounds_toArray, List.set_cons_zero, List.set_cons_succ]
      refine wpAnyH_take (i := 3) (v := ?_) rfl (by kernel_rfl) (by kernel_rfl) (by kernel_rfl) (fun _ _ _ h => h) (Or.inl ⟨by rfl, ?_⟩) (Below.refl _ _) ?_
      rotate_left
      · intro wS hSw
        go_simp
        try with_reducible rfl
      try simp only [List.getElem_toArray, List.getElem_cons_zero, List.getElem_cons_succ, Act.put, List.setIfInBounds_toArray, List.set_cons_zero, List.set_cons_succ]
      refine wpAnyH_take (i := 4) (v := ?_) rfl (by kernel_rfl) (by kernel_rfl) (by kernel_rfl) (fun _ _ _ h => h) (Or.inl ⟨by rfl, ?_⟩) (Below.refl _ _) ?_
      rotate_left
      · intro wS hSw
        go_simp
        try with_reducible rfl
      try simp only [List.getElem_toArray, List.getElem_cons_zero, List.getElem_cons_succ, Act.put, List.setIfInBounds_toArray, List.set_cons_zero, List.set_cons_succ]
      refine wpAnyH_take (i := 5) (v := ?_) rfl (by kernel_rfl) (by kernel_rfl) (by kernel_rfl) (fun _ _ _ h => h) (Or.inl ⟨by rfl, ?_⟩) (Below.refl _ _) ?_
      rotate_left
      · intro wS hSw
        go_simp
        try with_reducible rfl
      try simp only [List.getElem_toArray, List.getElem_cons_zero, List.getElem_cons_succ, Act.put, List.setIfInBounds_toArray, List.set_cons_zero, List.set_cons_succ]
      refine wpAnyH_take (i := 6) (v := ?_) rfl (by kernel_rfl) (by kernel_rfl) (by kernel_rfl) (fun _ _ _ h => h) (Or.inl ⟨by rfl, ?_⟩) (Below.refl _ _) ?_
      rotate_left
      · intro wS hSw
        go_simp
        try with_reducible rfl
      try simp only [List.getElem_toArray, List.getElem_cons_zero, List.getElem_cons_succ, Act.put, List.setIfInBounds_toArray, List.set_cons_zero, List.set_cons_succ]
      refine wpAnyH_take (i := 8) (v := ?_) rfl (by kernel_rfl) (by kernel_rfl) (by kernel_rfl) (fun _ _ _ h => h) (Or.inl ⟨by rfl, ?_⟩) (Below.refl _ _) ?_
      rotate_left
      · intro wS hSw
        go_simp
        try with_reducible rfl
      try simp only [List.getElem_toArray, List.getElem_cons_zero, List.getElem_cons_succ, Act.put, List.setIfInBounds_toArray, List.set_cons_zero, List.set_cons_succ]
      refine wpAnyH_take (i := 7) (v := ?_) rfl (by kernel_rfl) (by kernel_rfl) (by kernel_rfl) (fun _ _ _ h => h) (Or.inl ⟨by rfl, ?_⟩) (Below.refl _ _) ?_
      rotate_left
      · intro wS hSw
        have hcv := str_run hr3.drew hSw (Nat.le_refl _) HN3.out c3
        go_simp
        try with_reducible rfl
      try simp only [List.getElem_toArray, List.getElem_cons_zero, List.getElem_cons_succ, Act.put, List.setIfInBounds_toArray, List.set_cons_zero, List.set_cons_succ]
      refine wpAnyH_take (i := 9) (v := ?_) rfl (by kernel_rfl) (by kernel_rfl) (by kernel_rfl) (fun _ _ _ h => h) (Or.inl ⟨by rfl, ?_⟩) (Below.refl _ _) ?_
      rotate_left
      · intro wS hSw
        have hcv := str_run hr4.drew hSw (Nat.le_refl _) HN4.out c4
        go_simp
        try with_reducible rfl
      try simp only [List.getElem_toArray, List.getElem_cons_zero, List.getElem_cons_succ, Act.put, List.setIfInBounds_toArray, List.set_cons_zero, List.set_cons_succ]
      refine wpAnyH_take (i := 10) (v := ?_) rfl (by kernel_rfl) (by kernel_rfl) (by kernel_rfl) (fun _ _ _ h => h) (Or.inl ⟨by rfl, ?_⟩) (Below.refl _ _) ?_
      rotate_left
      · intro wS hSw
        go_simp
        try with_reducible rfl
      try simp only [List.getElem_toArray, List.getElem_cons_zero, List.getElem_cons_succ, Act.put, List.setIfInBounds_toArray, List.set_cons_zero, List.set_cons_succ]
      refine wpAnyH_take (i := 11) (v := ?_) rfl (by kernel_rfl) (by kernel_rfl) (by kernel_rfl) (fun _ _ _ h => h) (Or.inl ⟨by rfl, ?_⟩) (Below.refl _ _) ?_
      rotate_left
      · intro wS hSw
        go_simp
        try with_reducible rfl
      try simp only [List.getElem_toArray, List.getElem_cons_zero, List.getElem_cons_succ, Act.put, List.setIfInBounds_toArray, List.set_cons_zero, List.set_cons_succ]
      refine wpAnyH_take (i := 12) (v := ?_) rfl (by kernel_rfl) (by kernel_rfl) (by kernel_rfl) (fun _ _ _ h => h) (Or.inl ⟨by rfl, ?_⟩) (Below.refl _ _) ?_
      rotate_left
      · intro wS hSw
        go_simp
        try with_reducible rfl
      try simp only [List.getElem_toArray, List.getElem_cons_zero, List.getElem_cons_succ, Act.put, List.setIfInBounds_toArray, List.set_cons_zero, List.set_cons_succ]
      refine wpAnyH_take (i := 13) (v := ?_) rfl (by kernel_rfl) (by kernel_rfl) (by kernel_rfl) (fun _ _ _ h => h) (Or.inl ⟨by rfl, ?_⟩) (Below.refl _ _) ?_
      rotate_left
      · intro wS hSw
        go_simp
        try with_reducible rfl
      try simp only [List.getElem_toArray, List.getElem_cons_zero, List.getElem_cons_succ, Act.put, List.setIfInBounds_toArray, List.set_cons_zero, List.set_cons_succ]
      refine wpAnyH_take (i := 14) (v := ?_) rfl (by kernel_rfl) (by kernel_rfl) (by kernel_rfl) (fun _ _ _ h => h) (Or.inl ⟨by rfl, ?_⟩) (Below.refl _ _) ?_
      rotate_left
      · intro wS hSw
        go_simp
        try with_reducible rfl
      try simp only [List.getElem_toArray, List.getElem_cons_zero, List.getElem_cons_succ, Act.put, List.setIfInBounds_toArray, List.set_cons_zero, List.set_cons_succ]
      refine wpAnyH_take (i := 17) (v := ?_) rfl (by kernel_rfl) (by kernel_rfl) (by kernel_rfl) (fun _ _ _ h => h) (Or.inl ⟨by rfl, ?_⟩) (Below.refl _ _) ?_
      rotate_left
      · intro wS hSw
        go_simp
        try with_reducible rfl
      try simp only [List.getElem_toArray, List.getElem_cons_zero, List.getElem_cons_succ, Act.put, List.setIfInBounds_toArray, List.set_cons_zero, List.set_cons_succ]
      refine wpAnyH_take (i := 18) (v := ?_) rfl (by kernel_rfl) (by kernel_rfl) (by kernel_rfl) (fun _ _ _ h => h) (Or.inl ⟨by rfl, ?_⟩) (Below.refl _ _) ?_
      rotate_left
      · intro wS hSw
        have hcv := str_run (h.below hb1).drew hSw hb1.size rfl cap
        go_simp
        try with_reducible rfl
      try simp only [List.getElem_toArray, List.getElem_cons_zero, List.getElem_cons_succ, Act.put, List.setIfInBounds_toArray, List.set_cons_zero, List.set_cons_succ]
      refine wpAnyH_ready (rs := [15]) (by kernel_rfl) (by simp) ?_
      refine AllReadyH.cons rfl (fun K hK => ?_) AllReadyH.nil
      go_simp
      refine (fldScaleF w.heap.size 1 (by decide) A cap row _ (HF.out.drewN 1) _ ((h.below hb1).drewN 1) rfl hb1.size (by omega)).mono ?_
      rintro e w7 ⟨A7, n7, c7, rfl, hn7, ho7, hb7⟩
      rw [HL3.out] at hn7 ho7
      have HN7 := Lib.hid hn7
      clear hn7
      have hr7 := Rd.of_own ho7
      refine hK.out _ _ hb7 (fun _ => ?_)
      clear hK K
      try simp only [List.getElem_toArray, List.getElem_cons_zero, List.getElem_cons_succ, Act.put, List.setIfInBounds_toArray, List.set_cons_zero, List.set_cons_succ]
      refine wpAnyH_strong (S2 := fun w' => Below (World.heap w7).size w7 w') (fun _ h => Below.via hb7 h) ?_
      refine wpAnyH_take (i := 16) (v := ?_) rfl (by kernel_rfl) (by kernel_rfl) (by kernel_rfl) (fun _ _ _ h => h) (Or.inl ⟨by rfl, ?_⟩) (Below.refl _ _) ?_
      rotate_left
      · intro wS hSw
        have hcv := str_run hr7 hSw (Nat.le_refl _) HN7.out c7
        go_simp
        try with_reducible rfl
      try simp only [List.getElem_toArray, List.getElem_cons_zero, List.getElem_cons_succ, Act.put, List.setIfInBounds_toArray, List.set_cons_zero, List.set_cons_succ]
      refine wpAnyH_take (i := 19) (v := ?_) rfl (by kernel_rfl) (by kernel_rfl) (by kernel_rfl) (fun _ _ _ h => h) (Or.inl ⟨by rfl, ?_⟩) (Below.refl _ _) ?_
      rotate_left
      · intro wS hSw
        go_simp
        try with_reducible rfl
      try simp only [List.getElem_toArray, List.getElem_cons_zero, List.getElem_cons_succ, Act.put, List.setIfInBounds_toArray, List.set_cons_zero, List.set_cons_succ]
      refine wpAnyH_take (i := 20) (v := ?_) rfl (by kernel_rfl) (by kernel_rfl) (by kernel_rfl) (fun _ _ _ h => h) (Or.inl ⟨by rfl, ?_⟩) (Below.refl _ _) ?_
      rotate_left
      · intro wS hSw
        go_simp
        try with_reducible rfl
      try simp only [List.getElem_toArray, List.getElem_cons_zero, List.getElem_cons_succ, Act.put, List.setIfInBounds_toArray, List.set_cons_zero, List.set_cons_succ]
      refine wpAnyH_take (i := 21) (v := ?_) rfl (by kernel_rfl) (by kernel_rfl) (by kernel_rfl) (fun _ _ _ h => h) (Or.inl ⟨by rfl, ?_⟩) (Below.refl _ _) ?_
      rotate_left
      · intro wS hSw
        go_simp
        try with_reducible rfl
      try simp only [List.getElem_toArray, List.getElem_cons_zero, List.getElem_cons_succ, Act.put, List.setIfInBounds_toArray, List.set_cons_zero, List.set_cons_succ]
      refine wpAnyH_ready (rs := [22]) (by kernel_rfl) (by simp) ?_
      refine AllReadyH.cons rfl (fun K hK => ?_) AllReadyH.nil
      go_simp
      refine (reckons _).mono ?_
      rintro e w8 ⟨rfl, hb8⟩
      refine hK.out _ _ hb8 (fun _ => ?_)
      clear hK K
      try simp only [List.getElem_toArray, List.getElem_cons_zero, List.getElem_cons_succ, Act.put, List.setIfInBounds_toArray, List.set_cons_zero, List.set_cons_succ]
      refine wpAnyH_strong (S2 := fun w' => Below (World.heap w8).size w8 w') (fun _ h => Below.via hb8 h) ?_
      refine wpAnyH_take (i := 23) (v := ?_) rfl (by kernel_rfl) (by kernel_rfl) (by kernel_rfl) (fun _ _ _ h => h) (Or.inl ⟨by rfl, ?_⟩) (Below.refl _ _) ?_
      rotate_left
      · intro wS hSw
        go_simp
        try with_reducible rfl
      try simp only [List.getElem_toArray, List.getElem_cons_zero, List.getElem_cons_succ, Act.put, List.setIfInBounds_toArray, List.set_cons_zero, List.set_cons_succ]
      refine wpAnyH_take (i := 24) (v := ?_) rfl (by kernel_rfl) (by kernel_rfl) (by kernel_rfl) (fun _ _ _ h => h) (Or.inl ⟨by rfl, ?_⟩) (Below.refl _ _) ?_
      rotate_left
      · intro wS hSw
        go_simp
        try with_reducible rfl
      try simp only [List.getElem_toArray, List.getElem_cons_zero, List.getElem_cons_succ, Act.put, List.setIfInBounds_toArray, List.set_cons_zero, List.set_cons_succ]
      refine wpAnyH_done (by kernel_rfl) ?_ _
      go_wp2_with fail
      go_ret
      exact ⟨rfl, (hb1.drew.via hb7).via hb8⟩
end Cib
