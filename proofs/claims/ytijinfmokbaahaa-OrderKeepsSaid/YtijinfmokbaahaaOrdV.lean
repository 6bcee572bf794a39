/- Order: the heap: down. Printed by genS.py. -/
import Derived.Test.YtijinfmokbaahaaOrdS
set_option linter.unusedVariables false
set_option linter.unusedSimpArgs false
set_option maxRecDepth 20000
namespace Cib
open Go Go.RowKit Go.Proofs
section
variable {lt : Sn → Sn → Bool} {hi F r C : Nat} {d : Array Sn}
theorem sift_end (h : hi ≤ 2 * r + 1) : Go.Sort.siftDown lt hi F r d = d := by rw [Go.Sort.siftDown, dif_pos h]
theorem sift_R_go (h : ¬ hi ≤ 2 * r + 1) (h1 : 2 * r + 1 + 1 < hi) (h2 : lt d[F + (2 * r + 1)]! d[F + (2 * r + 1) + 1]! = true) (h3 : lt d[F + r]! d[F + (2 * r + 2)]! = true) : Go.Sort.siftDown lt hi F r d = Go.Sort.siftDown lt hi F (2 * r + 2) (Go.Sort.swp d (F + r) (F + (2 * r + 2))) := by
  rw [Go.Sort.siftDown, dif_neg h, if_pos (by simp [h1, h2]), if_neg (by simp [h3]), dif_pos (by omega)]
theorem sift_R_no (h : ¬ hi ≤ 2 * r + 1) (h1 : 2 * r + 1 + 1 < hi) (h2 : lt d[F + (2 * r + 1)]! d[F + (2 * r + 1) + 1]! = true) (h3 : lt d[F + r]! d[F + (2 * r + 2)]! = false) : Go.Sort.siftDown lt hi F r d = d := by
  rw [Go.Sort.siftDown, dif_neg h, if_pos (by simp [h1, h2]), if_pos (by simp [h3])]
theorem sift_L_go (h : ¬ hi ≤ 2 * r + 1) (h1 : 2 * r + 1 + 1 < hi → lt d[F + (2 * r + 1)]! d[F + (2 * r + 1) + 1]! = false) (h3 : lt d[F + r]! d[F + (2 * r + 1)]! = true) : Go.Sort.siftDown lt hi F r d = Go.Sort.siftDown lt hi F (2 * r + 1) (Go.Sort.swp d (F + r) (F + (2 * r + 1))) := by
  rw [Go.Sort.siftDown, dif_neg h, if_neg (by simp only [Bool.and_eq_true, decide_eq_true_eq, not_and]; intro hx; rw [h1 hx]; decide), if_neg (by simp [h3])]
theorem sift_L_no (h : ¬ hi ≤ 2 * r + 1) (h1 : 2 * r + 1 + 1 < hi → lt d[F + (2 * r + 1)]! d[F + (2 * r + 1) + 1]! = false) (h3 : lt d[F + r]! d[F + (2 * r + 1)]! = false) : Go.Sort.siftDown lt hi F r d = d := by
  rw [Go.Sort.siftDown, dif_neg h, if_neg (by simp only [Bool.and_eq_true, decide_eq_true_eq, not_and]; intro hx; rw [h1 hx]; decide), if_pos (by simp [h3])]
end
set_option maxHeartbeats 4000000 in
theorem ordSift (g n c lo hi F B : Nat) (d : Array Sn) (w : World) (h : Lies w g d) (hn : d.size = n) (hg : B ≤ g) (hlo : lo ≤ hi) (hhi : F + hi ≤ n) (hs : n ≤ 45) : Calls Try.prog 55 #[.slice (some ⟨g, 0, none⟩) n c, .int .i64 lo, .int .i64 hi, .int .i64 F, cmpV] w fun e w' =>
    e = .returned (.tuple #[]) ∧ Lies w' g (Go.Sort.siftDown ltS hi F lo d) ∧ Below B w w' := by
  have HH := Lib.hid h
  have HN := Lib.hid hn
  clear h hn
  unfold cmpV
  go_enter Try.func55, Try.ntmps55
  go_wp2
  go_loopw [10, 11] (fun vr _ wr => ∃ (r : Nat) (dk : Array Sn), vr = .int .i64 r ∧ r ≤ hi ∧ Hid (dk.size = n) ∧ Hid (Lies wr g dk) ∧ Hid (Below B w wr) ∧ Hid (Go.Sort.siftDown ltS hi F r dk = Go.Sort.siftDown ltS hi F lo d)) (fun vr _ _ => hi - (Go.RowKit.intOf vr).toNat)
  case atStart => exact ⟨lo, d, rfl, hlo, HN, HH, Lib.hid (Below.refl _ _), rfl⟩
  case round =>
    clear HH HN
    obtain ⟨r, dk, rfl, hrh, HZ, HL, HB, HO⟩ := hrel
    by_cases hge : hi ≤ 2 * r + 1
    · have hgz : (hi : Int) ≤ 2 * (r : Int) + 1 := by omega
      go_wp2
      first | go_end0 | refine bodyPost_ret (results_none rfl _ _ _) rfl ?_
      refine ⟨rfl, ?_, HB.out⟩
      rw [← HO.out, sift_end hge]
      exact HL.out
    · have hgz : ¬ (hi : Int) ≤ 2 * (r : Int) + 1 := by omega
      obtain ⟨C, hC⟩ : ∃ C : Nat, C = 2 * r + 1 := ⟨_, rfl⟩
      obtain ⟨K, hK⟩ : ∃ K : Nat, K = 2 * r + 2 := ⟨_, rfl⟩
      obtain ⟨X, hX⟩ : ∃ X : Nat, X = F + (2 * r + 1) := ⟨_, rfl⟩
      obtain ⟨Z, hZ⟩ : ∃ Z : Nat, Z = F + (2 * r + 2) := ⟨_, rfl⟩
      obtain ⟨Y, hY⟩ : ∃ Y : Nat, Y = F + r := ⟨_, rfl⟩
      have HE := Lib.hid (And.intro hC (And.intro hK (And.intro hX (And.intro hZ hY))))
      have r1 : 2 * (r : Int) + 1 = (C : Int) := by omega
      have r2 : (C : Int) + 1 = (K : Int) := by omega
      have r3 : (F : Int) + (C : Int) = (X : Int) := by omega
      have r4 : (X : Int) + 1 = (Z : Int) := by omega
      have r5 : (F : Int) + (K : Int) = (Z : Int) := by omega
      have r6 : (F : Int) + (r : Int) = (Y : Int) := by omega
      have b1 : (C : Int) < (hi : Int) := by omega
      have b2 : (X : Int) < (n : Int) := by omega
      have b3 : (Y : Int) < (n : Int) := by omega
      have b4 : C < hi := by omega
      have b5 : r < C := by omega
      have b6 : X < n := by omega
      have b7 : Y < n := by omega
      have b8 : X + 1 = Z := by omega
      have B8 := Lib.hid b8
      have TR := Lib.hid (show F + (2 * r + 1) + 1 = Z by omega)
      have b9 : ¬ (hi : Int) ≤ (C : Int) := by omega
      have wC : IntKind.i64.wrap (C : Int) = (C : Int) := by rw [IntKind.wrap_i64]; omega
      have wK : IntKind.i64.wrap (K : Int) = (K : Int) := by rw [IntKind.wrap_i64]; omega
      have wX : IntKind.i64.wrap (X : Int) = (X : Int) := by rw [IntKind.wrap_i64]; omega
      have wY : IntKind.i64.wrap (Y : Int) = (Y : Int) := by rw [IntKind.wrap_i64]; omega
      have wZ : IntKind.i64.wrap (Z : Int) = (Z : Int) := by rw [IntKind.wrap_i64]; omega
      clear hgz b8
      by_cases hk : K < hi
      · have k1 : (K : Int) < (hi : Int) := by omega
        have k2 : (Z : Int) < (n : Int) := by omega
        have k3 : Z < n := by omega
        have HK : Hid (2 * r + 1 + 1 < hi) := Lib.hid (by omega)
        have k4 : r < K := by omega
        clear hC hK hX hZ hY
        cases hcA : ltS dk[X]! dk[Z]! with
        | true =>
          have HT : Hid (ltS dk[F + (2 * r + 1)]! dk[F + (2 * r + 1) + 1]! = true) := Lib.hid (by rw [TR.out, ← HE.out.2.2.1]; exact hcA)
          have GOX : Hid (ltS dk[Y]! dk[Z]! = true → Go.Sort.siftDown ltS hi F r dk = Go.Sort.siftDown ltS hi F K (Go.Sort.swp dk Y Z)) := Lib.hid (by rw [HE.out.2.1, HE.out.2.2.2.1, HE.out.2.2.2.2]; intro h; exact sift_R_go hge HK.out HT.out h)
          have NOX : Hid (ltS dk[Y]! dk[Z]! = false → Go.Sort.siftDown ltS hi F r dk = dk) := Lib.hid (by rw [HE.out.2.2.2.1, HE.out.2.2.2.2]; intro h; exact sift_R_no hge HK.out HT.out h)
          obtain ⟨xA, hxA⟩ : ∃ x, x = dk[X]! := ⟨_, rfl⟩
          obtain ⟨yA, hyA⟩ : ∃ x, x = dk[Z]! := ⟨_, rfl⟩
          rw [← hxA, ← hyA] at hcA
          have hiA : X < dk.size := by have := HZ.out; omega
          have hjA : Z < dk.size := by have := HZ.out; omega
          have hvA : cfS xA yA < 0 := (cf_lt _ _).2 hcA
          have hdA : decide (cfS xA yA < 0) = true := decide_eq_true hvA
          have HXA := Lib.hid (And.intro hxA hyA)
          have HIA := Lib.hid (And.intro hiA hjA)
          have HCA := Lib.hid hcA
          clear hxA hyA hiA hjA hcA
          go_wp2
          refine wp_region_held_drew (S := (fun wQq => Lies wQq g dk ∧ Below B w wQq)) (by kernel_rfl) (⟨HL.out.drewN 1, below_drewN HB.out 1⟩) (fun _ => ?_)
          refine wpAnyH_take (i := 0) (v := ?_) rfl (by kernel_rfl) (by kernel_rfl) (by kernel_rfl) (fun _ _ _ h => h) (Or.inl ⟨by rfl, ?_⟩) (⟨HL.out.drewN 1, below_drewN HB.out 1⟩) ?_
          rotate_left
          · intro wS hSw
            go_simp
            try with_reducible rfl
          try simp only [List.getElem_toArray, List.getElem_cons_zero, List.getElem_cons_succ, Act.put, List.setIfInBounds_toArray, List.set_cons_zero, List.set_cons_succ]
          refine wpAnyH_take (i := 1) (v := ?_) rfl (by kernel_rfl) (by kernel_rfl) (by kernel_rfl) (fun _ _ _ h => h) (Or.inl ⟨by rfl, ?_⟩) (⟨HL.out.drewN 1, below_drewN HB.out 1⟩) ?_
          rotate_left
          · intro wS hSw
            go_simp
            try with_reducible rfl
          try simp only [List.getElem_toArray, List.getElem_cons_zero, List.getElem_cons_succ, Act.put, List.setIfInBounds_toArray, List.set_cons_zero, List.set_cons_succ]
          refine wpAnyH_take (i := 2) (v := ?_) rfl (by kernel_rfl) (by kernel_rfl) (by kernel_rfl) (fun _ _ _ h => h) (Or.inl ⟨by rfl, ?_⟩) (⟨HL.out.drewN 1, below_drewN HB.out 1⟩) ?_
          rotate_left
          · intro wS hSw
            go_simp
            try with_reducible rfl
          try simp only [List.getElem_toArray, List.getElem_cons_zero, List.getElem_cons_succ, Act.put, List.setIfInBounds_toArray, List.set_cons_zero, List.set_cons_succ]
          refine wpAnyH_take (i := 3) (v := ?_) rfl (by kernel_rfl) (by kernel_rfl) (by kernel_rfl) (fun _ _ _ h => h) (Or.inl ⟨by rfl, ?_⟩) (⟨HL.out.drewN 1, below_drewN HB.out 1⟩) ?_
          rotate_left
          · intro wS hSw
            go_simp
            try with_reducible rfl
          try simp only [List.getElem_toArray, List.getElem_cons_zero, List.getElem_cons_succ, Act.put, List.setIfInBounds_toArray, List.set_cons_zero, List.set_cons_succ]
          refine wpAnyH_take (i := 4) (v := ?_) rfl (by kernel_rfl) (by kernel_rfl) (by kernel_rfl) (fun _ _ _ h => h) (Or.inl ⟨by rfl, ?_⟩) (⟨HL.out.drewN 1, below_drewN HB.out 1⟩) ?_
          rotate_left
          · intro wS hSw
            go_simp
            try with_reducible rfl
          try simp only [List.getElem_toArray, List.getElem_cons_zero, List.getElem_cons_succ, Act.put, List.setIfInBounds_toArray, List.set_cons_zero, List.set_cons_succ]
          refine wpAnyH_take (i := 5) (v := ?_) rfl (by kernel_rfl) (by kernel_rfl) (by kernel_rfl) (fun _ _ _ h => h) (Or.inl ⟨by rfl, ?_⟩) (⟨HL.out.drewN 1, below_drewN HB.out 1⟩) ?_
          rotate_left
          · intro wS hSw
            go_simp
            try with_reducible rfl
          try simp only [List.getElem_toArray, List.getElem_cons_zero, List.getElem_cons_succ, Act.put, List.setIfInBounds_toArray, List.set_cons_zero, List.set_cons_succ]
          refine wpAnyH_take (i := 6) (v := ?_) rfl (by kernel_rfl) (by kernel_rfl) (by kernel_rfl) (fun _ _ _ h => h) (Or.inl ⟨by rfl, ?_⟩) (⟨HL.out.drewN 1, below_drewN HB.out 1⟩) ?_
          rotate_left
          · intro wS hSw
            go_simp
            try with_reducible rfl
          try simp only [List.getElem_toArray, List.getElem_cons_zero, List.getElem_cons_succ, Act.put, List.setIfInBounds_toArray, List.set_cons_zero, List.set_cons_succ]
          refine wpAnyH_take (i := 7) (v := ?_) rfl (by kernel_rfl) (by kernel_rfl) (by kernel_rfl) (fun _ _ _ h => h) (Or.inl ⟨by rfl, ?_⟩) (⟨HL.out.drewN 1, below_drewN HB.out 1⟩) ?_
          rotate_left
          · intro wS hSw
            go_simp
            try with_reducible rfl
          try simp only [List.getElem_toArray, List.getElem_cons_zero, List.getElem_cons_succ, Act.put, List.setIfInBounds_toArray, List.set_cons_zero, List.set_cons_succ]
          refine wpAnyH_take (i := 8) (v := ?_) rfl (by kernel_rfl) (by kernel_rfl) (by kernel_rfl) (fun _ _ _ h => h) (Or.inl ⟨by rfl, ?_⟩) (⟨HL.out.drewN 1, below_drewN HB.out 1⟩) ?_
          rotate_left
          · intro wS hSw
            go_simp
            try with_reducible rfl
          try simp only [List.getElem_toArray, List.getElem_cons_zero, List.getElem_cons_succ, Act.put, List.setIfInBounds_toArray, List.set_cons_zero, List.set_cons_succ]
          refine wpAnyH_take (i := 9) (v := ?_) rfl (by kernel_rfl) (by kernel_rfl) (by kernel_rfl) (fun _ _ _ h => h) (Or.inl ⟨by rfl, ?_⟩) (⟨HL.out.drewN 1, below_drewN HB.out 1⟩) ?_
          rotate_left
          · intro wS hSw
            go_simp
            try with_reducible rfl
          try simp only [List.getElem_toArray, List.getElem_cons_zero, List.getElem_cons_succ, Act.put, List.setIfInBounds_toArray, List.set_cons_zero, List.set_cons_succ]
          refine wpAnyH_take (i := 10) (v := ?_) rfl (by kernel_rfl) (by kernel_rfl) (by kernel_rfl) (fun _ _ _ h => h) (Or.inl ⟨by rfl, ?_⟩) (⟨HL.out.drewN 1, below_drewN HB.out 1⟩) ?_
          rotate_left
          · intro wS hSw
            go_simp
            try with_reducible rfl
          try simp only [List.getElem_toArray, List.getElem_cons_zero, List.getElem_cons_succ, Act.put, List.setIfInBounds_toArray, List.set_cons_zero, List.set_cons_succ]
          refine wpAnyH_take (i := 12) (v := ?_) rfl (by kernel_rfl) (by kernel_rfl) (by kernel_rfl) (fun _ _ _ h => h) (Or.inl ⟨by rfl, ?_⟩) (⟨HL.out.drewN 1, below_drewN HB.out 1⟩) ?_
          rotate_left
          · intro wS hSw
            go_simp
            try with_reducible rfl
          try simp only [List.getElem_toArray, List.getElem_cons_zero, List.getElem_cons_succ, Act.put, List.setIfInBounds_toArray, List.set_cons_zero, List.set_cons_succ]
          refine wpAnyH_take (i := 13) (v := ?_) rfl (by kernel_rfl) (by kernel_rfl) (by kernel_rfl) (fun _ _ _ h => h) (Or.inl ⟨by rfl, ?_⟩) (⟨HL.out.drewN 1, below_drewN HB.out 1⟩) ?_
          rotate_left
          · intro wS hSw
            go_simp
            try with_reducible rfl
          try simp only [List.getElem_toArray, List.getElem_cons_zero, List.getElem_cons_succ, Act.put, List.setIfInBounds_toArray, List.set_cons_zero, List.set_cons_succ]
          refine wpAnyH_take (i := 14) (v := ?_) rfl (by kernel_rfl) (by kernel_rfl) (by kernel_rfl) (fun _ _ _ h => h) (Or.inl ⟨by rfl, ?_⟩) (⟨HL.out.drewN 1, below_drewN HB.out 1⟩) ?_
          rotate_left
          · intro wS hSw
            go_simp
            try with_reducible rfl
          try simp only [List.getElem_toArray, List.getElem_cons_zero, List.getElem_cons_succ, Act.put, List.setIfInBounds_toArray, List.set_cons_zero, List.set_cons_succ]
          refine wpAnyH_take (i := 15) (v := ?_) rfl (by kernel_rfl) (by kernel_rfl) (by kernel_rfl) (fun _ _ _ h => h) (Or.inl ⟨by rfl, ?_⟩) (⟨HL.out.drewN 1, below_drewN HB.out 1⟩) ?_
          rotate_left
          · intro wS hSw
            go_simp
            try with_reducible rfl
          try simp only [List.getElem_toArray, List.getElem_cons_zero, List.getElem_cons_succ, Act.put, List.setIfInBounds_toArray, List.set_cons_zero, List.set_cons_succ]
          refine wpAnyH_take (i := 16) (v := ?_) rfl (by kernel_rfl) (by kernel_rfl) (by kernel_rfl) (fun _ _ _ h => h) (Or.inl ⟨by rfl, ?_⟩) (⟨HL.out.drewN 1, below_drewN HB.out 1⟩) ?_
          rotate_left
          · intro wS hSw
            go_simp
            try with_reducible rfl
          try simp only [List.getElem_toArray, List.getElem_cons_zero, List.getElem_cons_succ, Act.put, List.setIfInBounds_toArray, List.set_cons_zero, List.set_cons_succ]
          refine wpAnyH_take (i := 17) (v := ?_) rfl (by kernel_rfl) (by kernel_rfl) (by kernel_rfl) (fun _ _ _ h => h) (Or.inl ⟨by rfl, ?_⟩) (⟨HL.out.drewN 1, below_drewN HB.out 1⟩) ?_
          rotate_left
          · intro wS hSw
            go_simp
            try with_reducible rfl
          try simp only [List.getElem_toArray, List.getElem_cons_zero, List.getElem_cons_succ, Act.put, List.setIfInBounds_toArray, List.set_cons_zero, List.set_cons_succ]
          refine wpAnyH_take (i := 11) (v := ?_) rfl (by kernel_rfl) (by kernel_rfl) (by kernel_rfl) (fun _ _ _ h => h) (Or.inl ⟨by rfl, ?_⟩) (⟨HL.out.drewN 1, below_drewN HB.out 1⟩) ?_
          rotate_left
          · intro wS hSw
            have hcv := hSw.1.at0 HIA.out.1 HXA.out.1
            have hcv2 := hSw.1.at1 HIA.out.1 HXA.out.1
            go_simp
            try with_reducible rfl
          try simp only [List.getElem_toArray, List.getElem_cons_zero, List.getElem_cons_succ, Act.put, List.setIfInBounds_toArray, List.set_cons_zero, List.set_cons_succ]
          refine wpAnyH_take (i := 18) (v := ?_) rfl (by kernel_rfl) (by kernel_rfl) (by kernel_rfl) (fun _ _ _ h => h) (Or.inl ⟨by rfl, ?_⟩) (⟨HL.out.drewN 1, below_drewN HB.out 1⟩) ?_
          rotate_left
          · intro wS hSw
            have hcv := hSw.1.at0 HIA.out.2 HXA.out.2
            have hcv2 := hSw.1.at1 HIA.out.2 HXA.out.2
            go_simp
            try with_reducible rfl
          try simp only [List.getElem_toArray, List.getElem_cons_zero, List.getElem_cons_succ, Act.put, List.setIfInBounds_toArray, List.set_cons_zero, List.set_cons_succ]
          refine wpAnyH_ready (rs := [19]) (by kernel_rfl) (by simp) ?_
          refine AllReadyH.cons rfl (fun K hK => ?_) AllReadyH.nil
          go_simp
          refine (ordCmp xA yA _).mono ?_
          rintro e wA ⟨rfl, hbA⟩
          have HLA := Lib.hid ((HL.out.drewN 1).below hbA HL.out.lt)
          have HBA := Lib.hid ((below_drewN HB.out 1).trans (hbA.mono (Nat.le_trans hg (Nat.le_of_lt HL.out.lt))))
          clear hbA
          refine hK.out _ _ ⟨HLA.out, HBA.out⟩ (fun _ => ?_)
          clear hK K
          try simp only [List.getElem_toArray, List.getElem_cons_zero, List.getElem_cons_succ, Act.put, List.setIfInBounds_toArray, List.set_cons_zero, List.set_cons_succ]
          refine wpAnyH_take (i := 20) (v := ?_) rfl (by kernel_rfl) (by kernel_rfl) (by kernel_rfl) (fun _ _ _ h => h) (Or.inl ⟨by rfl, ?_⟩) ⟨HLA.out, HBA.out⟩ ?_
          rotate_left
          · intro wS hSw
            go_simp
            try with_reducible rfl
          try simp only [List.getElem_toArray, List.getElem_cons_zero, List.getElem_cons_succ, Act.put, List.setIfInBounds_toArray, List.set_cons_zero, List.set_cons_succ]
          refine wpAnyH_take (i := 21) (v := ?_) rfl (by kernel_rfl) (by kernel_rfl) (by kernel_rfl) (fun _ _ _ h => h) (Or.inl ⟨by rfl, ?_⟩) ⟨HLA.out, HBA.out⟩ ?_
          rotate_left
          · intro wS hSw
            go_simp
            try with_reducible rfl
          try simp only [List.getElem_toArray, List.getElem_cons_zero, List.getElem_cons_succ, Act.put, List.setIfInBounds_toArray, List.set_cons_zero, List.set_cons_succ]
          refine wpAnyH_done (by kernel_rfl) ?_ _

          clear HL HB
          have HL := HLA
          have HB := HBA
          go_wp2
          cases hcA : ltS dk[Y]! dk[Z]! with
          | false =>
            have hcQ := hcA
            obtain ⟨xB1, hxB1⟩ : ∃ x, x = dk[Y]! := ⟨_, rfl⟩
            obtain ⟨yB1, hyB1⟩ : ∃ x, x = dk[Z]! := ⟨_, rfl⟩
            rw [← hxB1, ← hyB1] at hcA
            have hiB1 : Y < dk.size := by have := HZ.out; omega
            have hjB1 : Z < dk.size := by have := HZ.out; omega
            have hvB1 : ¬ cfS xB1 yB1 < 0 := (cf_lt_no _ _).2 hcA
            have hdB1 : decide (cfS xB1 yB1 < 0) = false := decide_eq_false hvB1
            have HXB1 := Lib.hid (And.intro hxB1 hyB1)
            have HIB1 := Lib.hid (And.intro hiB1 hjB1)
            have HCB1 := Lib.hid hcA
            clear hxB1 hyB1 hiB1 hjB1 hcA
            go_wp2
            refine wp_region_held_drew (S := (fun wQq => Lies wQq g dk ∧ Below B w wQq)) (by kernel_rfl) (⟨HL.out.drewN 1, below_drewN HB.out 1⟩) (fun _ => ?_)
            refine wpAnyH_take (i := 0) (v := ?_) rfl (by kernel_rfl) (by kernel_rfl) (by kernel_rfl) (fun _ _ _ h => h) (Or.inl ⟨by rfl, ?_⟩) (⟨HL.out.drewN 1, below_drewN HB.out 1⟩) ?_
            rotate_left
            · intro wS hSw
              go_simp
              try with_reducible rfl
            try simp only [List.getElem_toArray, List.getElem_cons_zero, List.getElem_cons_succ, Act.put, List.setIfInBounds_toArray, List.set_cons_zero, List.set_cons_succ]
            refine wpAnyH_take (i := 1) (v := ?_) rfl (by kernel_rfl) (by kernel_rfl) (by kernel_rfl) (fun _ _ _ h => h) (Or.inl ⟨by rfl, ?_⟩) (⟨HL.out.drewN 1, below_drewN HB.out 1⟩) ?_
            rotate_left
            · intro wS hSw
              go_simp
              try with_reducible rfl
            try simp only [List.getElem_toArray, List.getElem_cons_zero, List.getElem_cons_succ, Act.put, List.setIfInBounds_toArray, List.set_cons_zero, List.set_cons_succ]
            refine wpAnyH_take (i := 2) (v := ?_) rfl (by kernel_rfl) (by kernel_rfl) (by kernel_rfl) (fun _ _ _ h => h) (Or.inl ⟨by rfl, ?_⟩) (⟨HL.out.drewN 1, below_drewN HB.out 1⟩) ?_
            rotate_left
            · intro wS hSw
              go_simp
              try with_reducible rfl
            try simp only [List.getElem_toArray, List.getElem_cons_zero, List.getElem_cons_succ, Act.put, List.setIfInBounds_toArray, List.set_cons_zero, List.set_cons_succ]
            refine wpAnyH_take (i := 3) (v := ?_) rfl (by kernel_rfl) (by kernel_rfl) (by kernel_rfl) (fun _ _ _ h => h) (Or.inl ⟨by rfl, ?_⟩) (⟨HL.out.drewN 1, below_drewN HB.out 1⟩) ?_
            rotate_left
            · intro wS hSw
              go_simp
              try with_reducible rfl
            try simp only [List.getElem_toArray, List.getElem_cons_zero, List.getElem_cons_succ, Act.put, List.setIfInBounds_toArray, List.set_cons_zero, List.set_cons_succ]
            refine wpAnyH_take (i := 4) (v := ?_) rfl (by kernel_rfl) (by kernel_rfl) (by kernel_rfl) (fun _ _ _ h => h) (Or.inl ⟨by rfl, ?_⟩) (⟨HL.out.drewN 1, below_drewN HB.out 1⟩) ?_
            rotate_left
            · intro wS hSw
              go_simp
              try with_reducible rfl
            try simp only [List.getElem_toArray, List.getElem_cons_zero, List.getElem_cons_succ, Act.put, List.setIfInBounds_toArray, List.set_cons_zero, List.set_cons_succ]
            refine wpAnyH_take (i := 5) (v := ?_) rfl (by kernel_rfl) (by kernel_rfl) (by kernel_rfl) (fun _ _ _ h => h) (Or.inl ⟨by rfl, ?_⟩) (⟨HL.out.drewN 1, below_drewN HB.out 1⟩) ?_
            rotate_left
            · intro wS hSw
              go_simp
              try with_reducible rfl
            try simp only [List.getElem_toArray, List.getElem_cons_zero, List.getElem_cons_succ, Act.put, List.setIfInBounds_toArray, List.set_cons_zero, List.set_cons_succ]
            refine wpAnyH_take (i := 7) (v := ?_) rfl (by kernel_rfl) (by kernel_rfl) (by kernel_rfl) (fun _ _ _ h => h) (Or.inl ⟨by rfl, ?_⟩) (⟨HL.out.drewN 1, below_drewN HB.out 1⟩) ?_
            rotate_left
            · intro wS hSw
              go_simp
              try with_reducible rfl
            try simp only [List.getElem_toArray, List.getElem_cons_zero, List.getElem_cons_succ, Act.put, List.setIfInBounds_toArray, List.set_cons_zero, List.set_cons_succ]
            refine wpAnyH_take (i := 8) (v := ?_) rfl (by kernel_rfl) (by kernel_rfl) (by kernel_rfl) (fun _ _ _ h => h) (Or.inl ⟨by rfl, ?_⟩) (⟨HL.out.drewN 1, below_drewN HB.out 1⟩) ?_
            rotate_left
            · intro wS hSw
              go_simp
              try with_reducible rfl
            try simp only [List.getElem_toArray, List.getElem_cons_zero, List.getElem_cons_succ, Act.put, List.setIfInBounds_toArray, List.set_cons_zero, List.set_cons_succ]
            refine wpAnyH_take (i := 9) (v := ?_) rfl (by kernel_rfl) (by kernel_rfl) (by kernel_rfl) (fun _ _ _ h => h) (Or.inl ⟨by rfl, ?_⟩) (⟨HL.out.drewN 1, below_drewN HB.out 1⟩) ?_
            rotate_left
            · intro wS hSw
              go_simp
              try with_reducible rfl
            try simp only [List.getElem_toArray, List.getElem_cons_zero, List.getElem_cons_succ, Act.put, List.setIfInBounds_toArray, List.set_cons_zero, List.set_cons_succ]
            refine wpAnyH_take (i := 10) (v := ?_) rfl (by kernel_rfl) (by kernel_rfl) (by kernel_rfl) (fun _ _ _ h => h) (Or.inl ⟨by rfl, ?_⟩) (⟨HL.out.drewN 1, below_drewN HB.out 1⟩) ?_
            rotate_left
            · intro wS hSw
              go_simp
              try with_reducible rfl
            try simp only [List.getElem_toArray, List.getElem_cons_zero, List.getElem_cons_succ, Act.put, List.setIfInBounds_toArray, List.set_cons_zero, List.set_cons_succ]
            refine wpAnyH_take (i := 11) (v := ?_) rfl (by kernel_rfl) (by kernel_rfl) (by kernel_rfl) (fun _ _ _ h => h) (Or.inl ⟨by rfl, ?_⟩) (⟨HL.out.drewN 1, below_drewN HB.out 1⟩) ?_
            rotate_left
            · intro wS hSw
              go_simp
              try with_reducible rfl
            try simp only [List.getElem_toArray, List.getElem_cons_zero, List.getElem_cons_succ, Act.put, List.setIfInBounds_toArray, List.set_cons_zero, List.set_cons_succ]
            refine wpAnyH_take (i := 6) (v := ?_) rfl (by kernel_rfl) (by kernel_rfl) (by kernel_rfl) (fun _ _ _ h => h) (Or.inl ⟨by rfl, ?_⟩) (⟨HL.out.drewN 1, below_drewN HB.out 1⟩) ?_
            rotate_left
            · intro wS hSw
              have hcv := hSw.1.at0 HIB1.out.1 HXB1.out.1
              have hcv2 := hSw.1.at1 HIB1.out.1 HXB1.out.1
              go_simp
              try with_reducible rfl
            try simp only [List.getElem_toArray, List.getElem_cons_zero, List.getElem_cons_succ, Act.put, List.setIfInBounds_toArray, List.set_cons_zero, List.set_cons_succ]
            refine wpAnyH_take (i := 12) (v := ?_) rfl (by kernel_rfl) (by kernel_rfl) (by kernel_rfl) (fun _ _ _ h => h) (Or.inl ⟨by rfl, ?_⟩) (⟨HL.out.drewN 1, below_drewN HB.out 1⟩) ?_
            rotate_left
            · intro wS hSw
              have hcv := hSw.1.at0 HIB1.out.2 HXB1.out.2
              have hcv2 := hSw.1.at1 HIB1.out.2 HXB1.out.2
              go_simp
              try with_reducible rfl
            try simp only [List.getElem_toArray, List.getElem_cons_zero, List.getElem_cons_succ, Act.put, List.setIfInBounds_toArray, List.set_cons_zero, List.set_cons_succ]
            refine wpAnyH_ready (rs := [13]) (by kernel_rfl) (by simp) ?_
            refine AllReadyH.cons rfl (fun K hK => ?_) AllReadyH.nil
            go_simp
            refine (ordCmp xB1 yB1 _).mono ?_
            rintro e wB1 ⟨rfl, hbB1⟩
            have HLB1 := Lib.hid ((HL.out.drewN 1).below hbB1 HL.out.lt)
            have HBB1 := Lib.hid ((below_drewN HB.out 1).trans (hbB1.mono (Nat.le_trans hg (Nat.le_of_lt HL.out.lt))))
            clear hbB1
            refine hK.out _ _ ⟨HLB1.out, HBB1.out⟩ (fun _ => ?_)
            clear hK K
            try simp only [List.getElem_toArray, List.getElem_cons_zero, List.getElem_cons_succ, Act.put, List.setIfInBounds_toArray, List.set_cons_zero, List.set_cons_succ]
            refine wpAnyH_take (i := 14) (v := ?_) rfl (by kernel_rfl) (by kernel_rfl) (by kernel_rfl) (fun _ _ _ h => h) (Or.inl ⟨by rfl, ?_⟩) ⟨HLB1.out, HBB1.out⟩ ?_
            rotate_left
            · intro wS hSw
              go_simp
              try with_reducible rfl
            try simp only [List.getElem_toArray, List.getElem_cons_zero, List.getElem_cons_succ, Act.put, List.setIfInBounds_toArray, List.set_cons_zero, List.set_cons_succ]
            refine wpAnyH_take (i := 15) (v := ?_) rfl (by kernel_rfl) (by kernel_rfl) (by kernel_rfl) (fun _ _ _ h => h) (Or.inl ⟨by rfl, ?_⟩) ⟨HLB1.out, HBB1.out⟩ ?_
            rotate_left
            · intro wS hSw
              go_simp
              try with_reducible rfl
            try simp only [List.getElem_toArray, List.getElem_cons_zero, List.getElem_cons_succ, Act.put, List.setIfInBounds_toArray, List.set_cons_zero, List.set_cons_succ]
            refine wpAnyH_done (by kernel_rfl) ?_ _

            go_wp2
            first | go_end0 | refine bodyPost_ret (results_none rfl _ _ _) rfl ?_
            refine ⟨rfl, ?_, HBB1.out⟩
            rw [← HO.out, NOX.out hcQ]
            exact HLB1.out
          | true =>
            have hcQ := hcA
            obtain ⟨xB1, hxB1⟩ : ∃ x, x = dk[Y]! := ⟨_, rfl⟩
            obtain ⟨yB1, hyB1⟩ : ∃ x, x = dk[Z]! := ⟨_, rfl⟩
            rw [← hxB1, ← hyB1] at hcA
            have hiB1 : Y < dk.size := by have := HZ.out; omega
            have hjB1 : Z < dk.size := by have := HZ.out; omega
            have hvB1 : cfS xB1 yB1 < 0 := (cf_lt _ _).2 hcA
            have hdB1 : decide (cfS xB1 yB1 < 0) = true := decide_eq_true hvB1
            have HXB1 := Lib.hid (And.intro hxB1 hyB1)
            have HIB1 := Lib.hid (And.intro hiB1 hjB1)
            have HCB1 := Lib.hid hcA
            clear hxB1 hyB1 hiB1 hjB1 hcA
            go_wp2
            refine wp_region_held_drew (S := (fun wQq => Lies wQq g dk ∧ Below B w wQq)) (by kernel_rfl) (⟨HL.out.drewN 1, below_drewN HB.out 1⟩) (fun _ => ?_)
            refine wpAnyH_take (i := 0) (v := ?_) rfl (by kernel_rfl) (by kernel_rfl) (by kernel_rfl) (fun _ _ _ h => h) (Or.inl ⟨by rfl, ?_⟩) (⟨HL.out.drewN 1, below_drewN HB.out 1⟩) ?_
            rotate_left
            · intro wS hSw
              go_simp
              try with_reducible rfl
            try simp only [List.getElem_toArray, List.getElem_cons_zero, List.getElem_cons_succ, Act.put, List.setIfInBounds_toArray, List.set_cons_zero, List.set_cons_succ]
            refine wpAnyH_take (i := 1) (v := ?_) rfl (by kernel_rfl) (by kernel_rfl) (by kernel_rfl) (fun _ _ _ h => h) (Or.inl ⟨by rfl, ?_⟩) (⟨HL.out.drewN 1, below_drewN HB.out 1⟩) ?_
            rotate_left
            · intro wS hSw
              go_simp
              try with_reducible rfl
            try simp only [List.getElem_toArray, List.getElem_cons_zero, List.getElem_cons_succ, Act.put, List.setIfInBounds_toArray, List.set_cons_zero, List.set_cons_succ]
            refine wpAnyH_take (i := 2) (v := ?_) rfl (by kernel_rfl) (by kernel_rfl) (by kernel_rfl) (fun _ _ _ h => h) (Or.inl ⟨by rfl, ?_⟩) (⟨HL.out.drewN 1, below_drewN HB.out 1⟩) ?_
            rotate_left
            · intro wS hSw
              go_simp
              try with_reducible rfl
            try simp only [List.getElem_toArray, List.getElem_cons_zero, List.getElem_cons_succ, Act.put, List.setIfInBounds_toArray, List.set_cons_zero, List.set_cons_succ]
            refine wpAnyH_take (i := 3) (v := ?_) rfl (by kernel_rfl) (by kernel_rfl) (by kernel_rfl) (fun _ _ _ h => h) (Or.inl ⟨by rfl, ?_⟩) (⟨HL.out.drewN 1, below_drewN HB.out 1⟩) ?_
            rotate_left
            · intro wS hSw
              go_simp
              try with_reducible rfl
            try simp only [List.getElem_toArray, List.getElem_cons_zero, List.getElem_cons_succ, Act.put, List.setIfInBounds_toArray, List.set_cons_zero, List.set_cons_succ]
            refine wpAnyH_take (i := 4) (v := ?_) rfl (by kernel_rfl) (by kernel_rfl) (by kernel_rfl) (fun _ _ _ h => h) (Or.inl ⟨by rfl, ?_⟩) (⟨HL.out.drewN 1, below_drewN HB.out 1⟩) ?_
            rotate_left
            · intro wS hSw
              go_simp
              try with_reducible rfl
            try simp only [List.getElem_toArray, List.getElem_cons_zero, List.getElem_cons_succ, Act.put, List.setIfInBounds_toArray, List.set_cons_zero, List.set_cons_succ]
            refine wpAnyH_take (i := 5) (v := ?_) rfl (by kernel_rfl) (by kernel_rfl) (by kernel_rfl) (fun _ _ _ h => h) (Or.inl ⟨by rfl, ?_⟩) (⟨HL.out.drewN 1, below_drewN HB.out 1⟩) ?_
            rotate_left
            · intro wS hSw
              go_simp
              try with_reducible rfl
            try simp only [List.getElem_toArray, List.getElem_cons_zero, List.getElem_cons_succ, Act.put, List.setIfInBounds_toArray, List.set_cons_zero, List.set_cons_succ]
            refine wpAnyH_take (i := 7) (v := ?_) rfl (by kernel_rfl) (by kernel_rfl) (by kernel_rfl) (fun _ _ _ h => h) (Or.inl ⟨by rfl, ?_⟩) (⟨HL.out.drewN 1, below_drewN HB.out 1⟩) ?_
            rotate_left
            · intro wS hSw
              go_simp
              try with_reducible rfl
            try simp only [List.getElem_toArray, List.getElem_cons_zero, List.getElem_cons_succ, Act.put, List.setIfInBounds_toArray, List.set_cons_zero, List.set_cons_succ]
            refine wpAnyH_take (i := 8) (v := ?_) rfl (by kernel_rfl) (by kernel_rfl) (by kernel_rfl) (fun _ _ _ h => h) (Or.inl ⟨by rfl, ?_⟩) (⟨HL.out.drewN 1, below_drewN HB.out 1⟩) ?_
            rotate_left
            · intro wS hSw
              go_simp
              try with_reducible rfl
            try simp only [List.getElem_toArray, List.getElem_cons_zero, List.getElem_cons_succ, Act.put, List.setIfInBounds_toArray, List.set_cons_zero, List.set_cons_succ]
            refine wpAnyH_take (i := 9) (v := ?_) rfl (by kernel_rfl) (by kernel_rfl) (by kernel_rfl) (fun _ _ _ h => h) (Or.inl ⟨by rfl, ?_⟩) (⟨HL.out.drewN 1, below_drewN HB.out 1⟩) ?_
            rotate_left
            · intro wS hSw
              go_simp
              try with_reducible rfl
            try simp only [List.getElem_toArray, List.getElem_cons_zero, List.getElem_cons_succ, Act.put, List.setIfInBounds_toArray, List.set_cons_zero, List.set_cons_succ]
            refine wpAnyH_take (i := 10) (v := ?_) rfl (by kernel_rfl) (by kernel_rfl) (by kernel_rfl) (fun _ _ _ h => h) (Or.inl ⟨by rfl, ?_⟩) (⟨HL.out.drewN 1, below_drewN HB.out 1⟩) ?_
            rotate_left
            · intro wS hSw
              go_simp
              try with_reducible rfl
            try simp only [List.getElem_toArray, List.getElem_cons_zero, List.getElem_cons_succ, Act.put, List.setIfInBounds_toArray, List.set_cons_zero, List.set_cons_succ]
            refine wpAnyH_take (i := 11) (v := ?_) rfl (by kernel_rfl) (by kernel_rfl) (by kernel_rfl) (fun _ _ _ h => h) (Or.inl ⟨by rfl, ?_⟩) (⟨HL.out.drewN 1, below_drewN HB.out 1⟩) ?_
            rotate_left
            · intro wS hSw
              go_simp
              try with_reducible rfl
            try simp only [List.getElem_toArray, List.getElem_cons_zero, List.getElem_cons_succ, Act.put, List.setIfInBounds_toArray, List.set_cons_zero, List.set_cons_succ]
            refine wpAnyH_take (i := 6) (v := ?_) rfl (by kernel_rfl) (by kernel_rfl) (by kernel_rfl) (fun _ _ _ h => h) (Or.inl ⟨by rfl, ?_⟩) (⟨HL.out.drewN 1, below_drewN HB.out 1⟩) ?_
            rotate_left
            · intro wS hSw
              have hcv := hSw.1.at0 HIB1.out.1 HXB1.out.1
              have hcv2 := hSw.1.at1 HIB1.out.1 HXB1.out.1
              go_simp
              try with_reducible rfl
            try simp only [List.getElem_toArray, List.getElem_cons_zero, List.getElem_cons_succ, Act.put, List.setIfInBounds_toArray, List.set_cons_zero, List.set_cons_succ]
            refine wpAnyH_take (i := 12) (v := ?_) rfl (by kernel_rfl) (by kernel_rfl) (by kernel_rfl) (fun _ _ _ h => h) (Or.inl ⟨by rfl, ?_⟩) (⟨HL.out.drewN 1, below_drewN HB.out 1⟩) ?_
            rotate_left
            · intro wS hSw
              have hcv := hSw.1.at0 HIB1.out.2 HXB1.out.2
              have hcv2 := hSw.1.at1 HIB1.out.2 HXB1.out.2
              go_simp
              try with_reducible rfl
            try simp only [List.getElem_toArray, List.getElem_cons_zero, List.getElem_cons_succ, Act.put, List.setIfInBounds_toArray, List.set_cons_zero, List.set_cons_succ]
            refine wpAnyH_ready (rs := [13]) (by kernel_rfl) (by simp) ?_
            refine AllReadyH.cons rfl (fun K hK => ?_) AllReadyH.nil
            go_simp
            refine (ordCmp xB1 yB1 _).mono ?_
            rintro e wB1 ⟨rfl, hbB1⟩
            have HLB1 := Lib.hid ((HL.out.drewN 1).below hbB1 HL.out.lt)
            have HBB1 := Lib.hid ((below_drewN HB.out 1).trans (hbB1.mono (Nat.le_trans hg (Nat.le_of_lt HL.out.lt))))
            clear hbB1
            refine hK.out _ _ ⟨HLB1.out, HBB1.out⟩ (fun _ => ?_)
            clear hK K
            try simp only [List.getElem_toArray, List.getElem_cons_zero, List.getElem_cons_succ, Act.put, List.setIfInBounds_toArray, List.set_cons_zero, List.set_cons_succ]
            refine wpAnyH_take (i := 14) (v := ?_) rfl (by kernel_rfl) (by kernel_rfl) (by kernel_rfl) (fun _ _ _ h => h) (Or.inl ⟨by rfl, ?_⟩) ⟨HLB1.out, HBB1.out⟩ ?_
            rotate_left
            · intro wS hSw
              go_simp
              try with_reducible rfl
            try simp only [List.getElem_toArray, List.getElem_cons_zero, List.getElem_cons_succ, Act.put, List.setIfInBounds_toArray, List.set_cons_zero, List.set_cons_succ]
            refine wpAnyH_take (i := 15) (v := ?_) rfl (by kernel_rfl) (by kernel_rfl) (by kernel_rfl) (fun _ _ _ h => h) (Or.inl ⟨by rfl, ?_⟩) ⟨HLB1.out, HBB1.out⟩ ?_
            rotate_left
            · intro wS hSw
              go_simp
              try with_reducible rfl
            try simp only [List.getElem_toArray, List.getElem_cons_zero, List.getElem_cons_succ, Act.put, List.setIfInBounds_toArray, List.set_cons_zero, List.set_cons_succ]
            refine wpAnyH_done (by kernel_rfl) ?_ _

            have GO : Hid (Go.Sort.siftDown ltS hi F K (Go.Sort.swp dk Y Z) = Go.Sort.siftDown ltS hi F lo d) := Lib.hid ((GOX.out hcQ).symm.trans HO.out)
            go_wp2
            obtain ⟨pS, hpS⟩ : ∃ x, x = dk[Y]! := ⟨_, rfl⟩
            obtain ⟨qS, hqS⟩ : ∃ x, x = dk[Z]! := ⟨_, rfl⟩
            have hSS := HLB1.out.swap (i := Y) (j := Z) (by have := HZ.out; omega) (by have := HZ.out; omega)
            rw [← hpS, ← hqS] at hSS
            have HSS := Lib.hid hSS
            have HTS := Lib.hid (below4 HBB1.out hg ((Y) * 2) ((Y) * 2 + 1) ((Z) * 2) ((Z) * 2 + 1) (.string qS.1) (.string qS.2) (.string pS.1) (.string pS.2))
            have l0S := HLB1.out.at0 (i := Y) (by have := HZ.out; omega) hpS
            have l1S := HLB1.out.at1 (i := Y) (by have := HZ.out; omega) hpS
            have l2S := HLB1.out.at0 (i := Z) (by have := HZ.out; omega) hqS
            have l3S := HLB1.out.at1 (i := Z) (by have := HZ.out; omega) hqS
            have f0S := HLB1.out.fr ((Y) * 2)
            have f1S := HLB1.out.fr ((Y) * 2 + 1)
            have f2S := HLB1.out.fr ((Z) * 2)
            have f3S := HLB1.out.fr ((Z) * 2 + 1)
            obtain ⟨v2S, m2S⟩ := HLB1.out.ex ((Z) * 2) ((Y) * 2) (.string qS.1) (by have hjz : Z < dk.size := (by have := HZ.out; omega); omega)
            obtain ⟨v3S, m3S⟩ := HLB1.out.ex2 ((Z) * 2 + 1) ((Y) * 2) ((Y) * 2 + 1) (.string qS.1) (.string qS.2) (by have hjz : Z < dk.size := (by have := HZ.out; omega); omega)
            clear hpS hqS hSS

            go_region
            all_goals (try go_wp2)
            go_roundw
            case rel => exact ⟨K, _, by first | rfl | go_num, by omega, Lib.hid (by rw [Go.Sort.size_swp]; exact HZ.out), Lib.hid (HSS.out.drewN 1), Lib.hid (below_drewN HTS.out 1), GO⟩
            case measure => first | (simp [Go.RowKit.intOf]; done) | (simp [Go.RowKit.intOf]; omega)

        | false =>
          have HT : Hid (2 * r + 1 + 1 < hi → ltS dk[F + (2 * r + 1)]! dk[F + (2 * r + 1) + 1]! = false) := Lib.hid fun _ => (by rw [TR.out, ← HE.out.2.2.1]; exact hcA)
          have GOX : Hid (ltS dk[Y]! dk[X]! = true → Go.Sort.siftDown ltS hi F r dk = Go.Sort.siftDown ltS hi F C (Go.Sort.swp dk Y X)) := Lib.hid (by rw [HE.out.1, HE.out.2.2.1, HE.out.2.2.2.2]; intro h; exact sift_L_go hge HT.out h)
          have NOX : Hid (ltS dk[Y]! dk[X]! = false → Go.Sort.siftDown ltS hi F r dk = dk) := Lib.hid (by rw [HE.out.2.2.1, HE.out.2.2.2.2]; intro h; exact sift_L_no hge HT.out h)
          obtain ⟨xA, hxA⟩ : ∃ x, x = dk[X]! := ⟨_, rfl⟩
          obtain ⟨yA, hyA⟩ : ∃ x, x = dk[Z]! := ⟨_, rfl⟩
          rw [← hxA, ← hyA] at hcA
          have hiA : X < dk.size := by have := HZ.out; omega
          have hjA : Z < dk.size := by have := HZ.out; omega
          have hvA : ¬ cfS xA yA < 0 := (cf_lt_no _ _).2 hcA
          have hdA : decide (cfS xA yA < 0) = false := decide_eq_false hvA
          have HXA := Lib.hid (And.intro hxA hyA)
          have HIA := Lib.hid (And.intro hiA hjA)
          have HCA := Lib.hid hcA
          clear hxA hyA hiA hjA hcA
          go_wp2
          refine wp_region_held_drew (S := (fun wQq => Lies wQq g dk ∧ Below B w wQq)) (by kernel_rfl) (⟨HL.out.drewN 1, below_drewN HB.out 1⟩) (fun _ => ?_)
          refine wpAnyH_take (i := 0) (v := ?_) rfl (by kernel_rfl) (by kernel_rfl) (by kernel_rfl) (fun _ _ _ h => h) (Or.inl ⟨by rfl, ?_⟩) (⟨HL.out.drewN 1, below_drewN HB.out 1⟩) ?_
          rotate_left
          · intro wS hSw
            go_simp
            try with_reducible rfl
          try simp only [List.getElem_toArray, List.getElem_cons_zero, List.getElem_cons_succ, Act.put, List.setIfInBounds_toArray, List.set_cons_zero, List.set_cons_succ]
          refine wpAnyH_take (i := 1) (v := ?_) rfl (by kernel_rfl) (by kernel_rfl) (by kernel_rfl) (fun _ _ _ h => h) (Or.inl ⟨by rfl, ?_⟩) (⟨HL.out.drewN 1, below_drewN HB.out 1⟩) ?_
          rotate_left
          · intro wS hSw
            go_simp
            try with_reducible rfl
          try simp only [List.getElem_toArray, List.getElem_cons_zero, List.getElem_cons_succ, Act.put, List.setIfInBounds_toArray, List.set_cons_zero, List.set_cons_succ]
          refine wpAnyH_take (i := 2) (v := ?_) rfl (by kernel_rfl) (by kernel_rfl) (by kernel_rfl) (fun _ _ _ h => h) (Or.inl ⟨by rfl, ?_⟩) (⟨HL.out.drewN 1, below_drewN HB.out 1⟩) ?_
          rotate_left
          · intro wS hSw
            go_simp
            try with_reducible rfl
          try simp only [List.getElem_toArray, List.getElem_cons_zero, List.getElem_cons_succ, Act.put, List.setIfInBounds_toArray, List.set_cons_zero, List.set_cons_succ]
          refine wpAnyH_take (i := 3) (v := ?_) rfl (by kernel_rfl) (by kernel_rfl) (by kernel_rfl) (fun _ _ _ h => h) (Or.inl ⟨by rfl, ?_⟩) (⟨HL.out.drewN 1, below_drewN HB.out 1⟩) ?_
          rotate_left
          · intro wS hSw
            go_simp
            try with_reducible rfl
          try simp only [List.getElem_toArray, List.getElem_cons_zero, List.getElem_cons_succ, Act.put, List.setIfInBounds_toArray, List.set_cons_zero, List.set_cons_succ]
          refine wpAnyH_take (i := 4) (v := ?_) rfl (by kernel_rfl) (by kernel_rfl) (by kernel_rfl) (fun _ _ _ h => h) (Or.inl ⟨by rfl, ?_⟩) (⟨HL.out.drewN 1, below_drewN HB.out 1⟩) ?_
          rotate_left
          · intro wS hSw
            go_simp
            try with_reducible rfl
          try simp only [List.getElem_toArray, List.getElem_cons_zero, List.getElem_cons_succ, Act.put, List.setIfInBounds_toArray, List.set_cons_zero, List.set_cons_succ]
          refine wpAnyH_take (i := 5) (v := ?_) rfl (by kernel_rfl) (by kernel_rfl) (by kernel_rfl) (fun _ _ _ h => h) (Or.inl ⟨by rfl, ?_⟩) (⟨HL.out.drewN 1, below_drewN HB.out 1⟩) ?_
          rotate_left
          · intro wS hSw
            go_simp
            try with_reducible rfl
          try simp only [List.getElem_toArray, List.getElem_cons_zero, List.getElem_cons_succ, Act.put, List.setIfInBounds_toArray, List.set_cons_zero, List.set_cons_succ]
          refine wpAnyH_take (i := 6) (v := ?_) rfl (by kernel_rfl) (by kernel_rfl) (by kernel_rfl) (fun _ _ _ h => h) (Or.inl ⟨by rfl, ?_⟩) (⟨HL.out.drewN 1, below_drewN HB.out 1⟩) ?_
          rotate_left
          · intro wS hSw
            go_simp
            try with_reducible rfl
          try simp only [List.getElem_toArray, List.getElem_cons_zero, List.getElem_cons_succ, Act.put, List.setIfInBounds_toArray, List.set_cons_zero, List.set_cons_succ]
          refine wpAnyH_take (i := 7) (v := ?_) rfl (by kernel_rfl) (by kernel_rfl) (by kernel_rfl) (fun _ _ _ h => h) (Or.inl ⟨by rfl, ?_⟩) (⟨HL.out.drewN 1, below_drewN HB.out 1⟩) ?_
          rotate_left
          · intro wS hSw
            go_simp
            try with_reducible rfl
          try simp only [List.getElem_toArray, List.getElem_cons_zero, List.getElem_cons_succ, Act.put, List.setIfInBounds_toArray, List.set_cons_zero, List.set_cons_succ]
          refine wpAnyH_take (i := 8) (v := ?_) rfl (by kernel_rfl) (by kernel_rfl) (by kernel_rfl) (fun _ _ _ h => h) (Or.inl ⟨by rfl, ?_⟩) (⟨HL.out.drewN 1, below_drewN HB.out 1⟩) ?_
          rotate_left
          · intro wS hSw
            go_simp
            try with_reducible rfl
          try simp only [List.getElem_toArray, List.getElem_cons_zero, List.getElem_cons_succ, Act.put, List.setIfInBounds_toArray, List.set_cons_zero, List.set_cons_succ]
          refine wpAnyH_take (i := 9) (v := ?_) rfl (by kernel_rfl) (by kernel_rfl) (by kernel_rfl) (fun _ _ _ h => h) (Or.inl ⟨by rfl, ?_⟩) (⟨HL.out.drewN 1, below_drewN HB.out 1⟩) ?_
          rotate_left
          · intro wS hSw
            go_simp
            try with_reducible rfl
          try simp only [List.getElem_toArray, List.getElem_cons_zero, List.getElem_cons_succ, Act.put, List.setIfInBounds_toArray, List.set_cons_zero, List.set_cons_succ]
          refine wpAnyH_take (i := 10) (v := ?_) rfl (by kernel_rfl) (by kernel_rfl) (by kernel_rfl) (fun _ _ _ h => h) (Or.inl ⟨by rfl, ?_⟩) (⟨HL.out.drewN 1, below_drewN HB.out 1⟩) ?_
          rotate_left
          · intro wS hSw
            go_simp
            try with_reducible rfl
          try simp only [List.getElem_toArray, List.getElem_cons_zero, List.getElem_cons_succ, Act.put, List.setIfInBounds_toArray, List.set_cons_zero, List.set_cons_succ]
          refine wpAnyH_take (i := 12) (v := ?_) rfl (by kernel_rfl) (by kernel_rfl) (by kernel_rfl) (fun _ _ _ h => h) (Or.inl ⟨by rfl, ?_⟩) (⟨HL.out.drewN 1, below_drewN HB.out 1⟩) ?_
          rotate_left
          · intro wS hSw
            go_simp
            try with_reducible rfl
          try simp only [List.getElem_toArray, List.getElem_cons_zero, List.getElem_cons_succ, Act.put, List.setIfInBounds_toArray, List.set_cons_zero, List.set_cons_succ]
          refine wpAnyH_take (i := 13) (v := ?_) rfl (by kernel_rfl) (by kernel_rfl) (by kernel_rfl) (fun _ _ _ h => h) (Or.inl ⟨by rfl, ?_⟩) (⟨HL.out.drewN 1, below_drewN HB.out 1⟩) ?_
          rotate_left
          · intro wS hSw
            go_simp
            try with_reducible rfl
          try simp only [List.getElem_toArray, List.getElem_cons_zero, List.getElem_cons_succ, Act.put, List.setIfInBounds_toArray, List.set_cons_zero, List.set_cons_succ]
          refine wpAnyH_take (i := 14) (v := ?_) rfl (by kernel_rfl) (by kernel_rfl) (by kernel_rfl) (fun _ _ _ h => h) (Or.inl ⟨by rfl, ?_⟩) (⟨HL.out.drewN 1, below_drewN HB.out 1⟩) ?_
          rotate_left
          · intro wS hSw
            go_simp
            try with_reducible rfl
          try simp only [List.getElem_toArray, List.getElem_cons_zero, List.getElem_cons_succ, Act.put, List.setIfInBounds_toArray, List.set_cons_zero, List.set_cons_succ]
          refine wpAnyH_take (i := 15) (v := ?_) rfl (by kernel_rfl) (by kernel_rfl) (by kernel_rfl) (fun _ _ _ h => h) (Or.inl ⟨by rfl, ?_⟩) (⟨HL.out.drewN 1, below_drewN HB.out 1⟩) ?_
          rotate_left
          · intro wS hSw
            go_simp
            try with_reducible rfl
          try simp only [List.getElem_toArray, List.getElem_cons_zero, List.getElem_cons_succ, Act.put, List.setIfInBounds_toArray, List.set_cons_zero, List.set_cons_succ]
          refine wpAnyH_take (i := 16) (v := ?_) rfl (by kernel_rfl) (by kernel_rfl) (by kernel_rfl) (fun _ _ _ h => h) (Or.inl ⟨by rfl, ?_⟩) (⟨HL.out.drewN 1, below_drewN HB.out 1⟩) ?_
          rotate_left
          · intro wS hSw
            go_simp
            try with_reducible rfl
          try simp only [List.getElem_toArray, List.getElem_cons_zero, List.getElem_cons_succ, Act.put, List.setIfInBounds_toArray, List.set_cons_zero, List.set_cons_succ]
          refine wpAnyH_take (i := 17) (v := ?_) rfl (by kernel_rfl) (by kernel_rfl) (by kernel_rfl) (fun _ _ _ h => h) (Or.inl ⟨by rfl, ?_⟩) (⟨HL.out.drewN 1, below_drewN HB.out 1⟩) ?_
          rotate_left
          · intro wS hSw
            go_simp
            try with_reducible rfl
          try simp only [List.getElem_toArray, List.getElem_cons_zero, List.getElem_cons_succ, Act.put, List.setIfInBounds_toArray, List.set_cons_zero, List.set_cons_succ]
          refine wpAnyH_take (i := 11) (v := ?_) rfl (by kernel_rfl) (by kernel_rfl) (by kernel_rfl) (fun _ _ _ h => h) (Or.inl ⟨by rfl, ?_⟩) (⟨HL.out.drewN 1, below_drewN HB.out 1⟩) ?_
          rotate_left
          · intro wS hSw
            have hcv := hSw.1.at0 HIA.out.1 HXA.out.1
            have hcv2 := hSw.1.at1 HIA.out.1 HXA.out.1
            go_simp
            try with_reducible rfl
          try simp only [List.getElem_toArray, List.getElem_cons_zero, List.getElem_cons_succ, Act.put, List.setIfInBounds_toArray, List.set_cons_zero, List.set_cons_succ]
          refine wpAnyH_take (i := 18) (v := ?_) rfl (by kernel_rfl) (by kernel_rfl) (by kernel_rfl) (fun _ _ _ h => h) (Or.inl ⟨by rfl, ?_⟩) (⟨HL.out.drewN 1, below_drewN HB.out 1⟩) ?_
          rotate_left
          · intro wS hSw
            have hcv := hSw.1.at0 HIA.out.2 HXA.out.2
            have hcv2 := hSw.1.at1 HIA.out.2 HXA.out.2
            go_simp
            try with_reducible rfl
          try simp only [List.getElem_toArray, List.getElem_cons_zero, List.getElem_cons_succ, Act.put, List.setIfInBounds_toArray, List.set_cons_zero, List.set_cons_succ]
          refine wpAnyH_ready (rs := [19]) (by kernel_rfl) (by simp) ?_
          refine AllReadyH.cons rfl (fun K hK => ?_) AllReadyH.nil
          go_simp
          refine (ordCmp xA yA _).mono ?_
          rintro e wA ⟨rfl, hbA⟩
          have HLA := Lib.hid ((HL.out.drewN 1).below hbA HL.out.lt)
          have HBA := Lib.hid ((below_drewN HB.out 1).trans (hbA.mono (Nat.le_trans hg (Nat.le_of_lt HL.out.lt))))
          clear hbA
          refine hK.out _ _ ⟨HLA.out, HBA.out⟩ (fun _ => ?_)
          clear hK K
          try simp only [List.getElem_toArray, List.getElem_cons_zero, List.getElem_cons_succ, Act.put, List.setIfInBounds_toArray, List.set_cons_zero, List.set_cons_succ]
          refine wpAnyH_take (i := 20) (v := ?_) rfl (by kernel_rfl) (by kernel_rfl) (by kernel_rfl) (fun _ _ _ h => h) (Or.inl ⟨by rfl, ?_⟩) ⟨HLA.out, HBA.out⟩ ?_
          rotate_left
          · intro wS hSw
            go_simp
            try with_reducible rfl
          try simp only [List.getElem_toArray, List.getElem_cons_zero, List.getElem_cons_succ, Act.put, List.setIfInBounds_toArray, List.set_cons_zero, List.set_cons_succ]
          refine wpAnyH_take (i := 21) (v := ?_) rfl (by kernel_rfl) (by kernel_rfl) (by kernel_rfl) (fun _ _ _ h => h) (Or.inl ⟨by rfl, ?_⟩) ⟨HLA.out, HBA.out⟩ ?_
          rotate_left
          · intro wS hSw
            go_simp
            try with_reducible rfl
          try simp only [List.getElem_toArray, List.getElem_cons_zero, List.getElem_cons_succ, Act.put, List.setIfInBounds_toArray, List.set_cons_zero, List.set_cons_succ]
          refine wpAnyH_done (by kernel_rfl) ?_ _

          clear HL HB
          have HL := HLA
          have HB := HBA
          go_wp2
          cases hcA : ltS dk[Y]! dk[X]! with
          | false =>
            have hcQ := hcA
            obtain ⟨xB1, hxB1⟩ : ∃ x, x = dk[Y]! := ⟨_, rfl⟩
            obtain ⟨yB1, hyB1⟩ : ∃ x, x = dk[X]! := ⟨_, rfl⟩
            rw [← hxB1, ← hyB1] at hcA
            have hiB1 : Y < dk.size := by have := HZ.out; omega
            have hjB1 : X < dk.size := by have := HZ.out; omega
            have hvB1 : ¬ cfS xB1 yB1 < 0 := (cf_lt_no _ _).2 hcA
            have hdB1 : decide (cfS xB1 yB1 < 0) = false := decide_eq_false hvB1
            have HXB1 := Lib.hid (And.intro hxB1 hyB1)
            have HIB1 := Lib.hid (And.intro hiB1 hjB1)
            have HCB1 := Lib.hid hcA
            clear hxB1 hyB1 hiB1 hjB1 hcA
            go_wp2
            refine wp_region_held_drew (S := (fun wQq => Lies wQq g dk ∧ Below B w wQq)) (by kernel_rfl) (⟨HL.out.drewN 1, below_drewN HB.out 1⟩) (fun _ => ?_)
            refine wpAnyH_take (i := 0) (v := ?_) rfl (by kernel_rfl) (by kernel_rfl) (by kernel_rfl) (fun _ _ _ h => h) (Or.inl ⟨by rfl, ?_⟩) (⟨HL.out.drewN 1, below_drewN HB.out 1⟩) ?_
            rotate_left
            · intro wS hSw
              go_simp
              try with_reducible rfl
            try simp only [List.getElem_toArray, List.getElem_cons_zero, List.getElem_cons_succ, Act.put, List.setIfInBounds_toArray, List.set_cons_zero, List.set_cons_succ]
            refine wpAnyH_take (i := 1) (v := ?_) rfl (by kernel_rfl) (by kernel_rfl) (by kernel_rfl) (fun _ _ _ h => h) (Or.inl ⟨by rfl, ?_⟩) (⟨HL.out.drewN 1, below_drewN HB.out 1⟩) ?_
            rotate_left
            · intro wS hSw
              go_simp
              try with_reducible rfl
            try simp only [List.getElem_toArray, List.getElem_cons_zero, List.getElem_cons_succ, Act.put, List.setIfInBounds_toArray, List.set_cons_zero, List.set_cons_succ]
            refine wpAnyH_take (i := 2) (v := ?_) rfl (by kernel_rfl) (by kernel_rfl) (by kernel_rfl) (fun _ _ _ h => h) (Or.inl ⟨by rfl, ?_⟩) (⟨HL.out.drewN 1, below_drewN HB.out 1⟩) ?_
            rotate_left
            · intro wS hSw
              go_simp
              try with_reducible rfl
            try simp only [List.getElem_toArray, List.getElem_cons_zero, List.getElem_cons_succ, Act.put, List.setIfInBounds_toArray, List.set_cons_zero, List.set_cons_succ]
            refine wpAnyH_take (i := 3) (v := ?_) rfl (by kernel_rfl) (by kernel_rfl) (by kernel_rfl) (fun _ _ _ h => h) (Or.inl ⟨by rfl, ?_⟩) (⟨HL.out.drewN 1, below_drewN HB.out 1⟩) ?_
            rotate_left
            · intro wS hSw
              go_simp
              try with_reducible rfl
            try simp only [List.getElem_toArray, List.getElem_cons_zero, List.getElem_cons_succ, Act.put, List.setIfInBounds_toArray, List.set_cons_zero, List.set_cons_succ]
            refine wpAnyH_take (i := 4) (v := ?_) rfl (by kernel_rfl) (by kernel_rfl) (by kernel_rfl) (fun _ _ _ h => h) (Or.inl ⟨by rfl, ?_⟩) (⟨HL.out.drewN 1, below_drewN HB.out 1⟩) ?_
            rotate_left
            · intro wS hSw
              go_simp
              try with_reducible rfl
            try simp only [List.getElem_toArray, List.getElem_cons_zero, List.getElem_cons_succ, Act.put, List.setIfInBounds_toArray, List.set_cons_zero, List.set_cons_succ]
            refine wpAnyH_take (i := 5) (v := ?_) rfl (by kernel_rfl) (by kernel_rfl) (by kernel_rfl) (fun _ _ _ h => h) (Or.inl ⟨by rfl, ?_⟩) (⟨HL.out.drewN 1, below_drewN HB.out 1⟩) ?_
            rotate_left
            · intro wS hSw
              go_simp
              try with_reducible rfl
            try simp only [List.getElem_toArray, List.getElem_cons_zero, List.getElem_cons_succ, Act.put, List.setIfInBounds_toArray, List.set_cons_zero, List.set_cons_succ]
            refine wpAnyH_take (i := 7) (v := ?_) rfl (by kernel_rfl) (by kernel_rfl) (by kernel_rfl) (fun _ _ _ h => h) (Or.inl ⟨by rfl, ?_⟩) (⟨HL.out.drewN 1, below_drewN HB.out 1⟩) ?_
            rotate_left
            · intro wS hSw
              go_simp
              try with_reducible rfl
            try simp only [List.getElem_toArray, List.getElem_cons_zero, List.getElem_cons_succ, Act.put, List.setIfInBounds_toArray, List.set_cons_zero, List.set_cons_succ]
            refine wpAnyH_take (i := 8) (v := ?_) rfl (by kernel_rfl) (by kernel_rfl) (by kernel_rfl) (fun _ _ _ h => h) (Or.inl ⟨by rfl, ?_⟩) (⟨HL.out.drewN 1, below_drewN HB.out 1⟩) ?_
            rotate_left
            · intro wS hSw
              go_simp
              try with_reducible rfl
            try simp only [List.getElem_toArray, List.getElem_cons_zero, List.getElem_cons_succ, Act.put, List.setIfInBounds_toArray, List.set_cons_zero, List.set_cons_succ]
            refine wpAnyH_take (i := 9) (v := ?_) rfl (by kernel_rfl) (by kernel_rfl) (by kernel_rfl) (fun _ _ _ h => h) (Or.inl ⟨by rfl, ?_⟩) (⟨HL.out.drewN 1, below_drewN HB.out 1⟩) ?_
            rotate_left
            · intro wS hSw
              go_simp
              try with_reducible rfl
            try simp only [List.getElem_toArray, List.getElem_cons_zero, List.getElem_cons_succ, Act.put, List.setIfInBounds_toArray, List.set_cons_zero, List.set_cons_succ]
            refine wpAnyH_take (i := 10) (v := ?_) rfl (by kernel_rfl) (by kernel_rfl) (by kernel_rfl) (fun _ _ _ h => h) (Or.inl ⟨by rfl, ?_⟩) (⟨HL.out.drewN 1, below_drewN HB.out 1⟩) ?_
            rotate_left
            · intro wS hSw
              go_simp
              try with_reducible rfl
            try simp only [List.getElem_toArray, List.getElem_cons_zero, List.getElem_cons_succ, Act.put, List.setIfInBounds_toArray, List.set_cons_zero, List.set_cons_succ]
            refine wpAnyH_take (i := 11) (v := ?_) rfl (by kernel_rfl) (by kernel_rfl) (by kernel_rfl) (fun _ _ _ h => h) (Or.inl ⟨by rfl, ?_⟩) (⟨HL.out.drewN 1, below_drewN HB.out 1⟩) ?_
            rotate_left
            · intro wS hSw
              go_simp
              try with_reducible rfl
            try simp only [List.getElem_toArray, List.getElem_cons_zero, List.getElem_cons_succ, Act.put, List.setIfInBounds_toArray, List.set_cons_zero, List.set_cons_succ]
            refine wpAnyH_take (i := 6) (v := ?_) rfl (by kernel_rfl) (by kernel_rfl) (by kernel_rfl) (fun _ _ _ h => h) (Or.inl ⟨by rfl, ?_⟩) (⟨HL.out.drewN 1, below_drewN HB.out 1⟩) ?_
            rotate_left
            · intro wS hSw
              have hcv := hSw.1.at0 HIB1.out.1 HXB1.out.1
              have hcv2 := hSw.1.at1 HIB1.out.1 HXB1.out.1
              go_simp
              try with_reducible rfl
            try simp only [List.getElem_toArray, List.getElem_cons_zero, List.getElem_cons_succ, Act.put, List.setIfInBounds_toArray, List.set_cons_zero, List.set_cons_succ]
            refine wpAnyH_take (i := 12) (v := ?_) rfl (by kernel_rfl) (by kernel_rfl) (by kernel_rfl) (fun _ _ _ h => h) (Or.inl ⟨by rfl, ?_⟩) (⟨HL.out.drewN 1, below_drewN HB.out 1⟩) ?_
            rotate_left
            · intro wS hSw
              have hcv := hSw.1.at0 HIB1.out.2 HXB1.out.2
              have hcv2 := hSw.1.at1 HIB1.out.2 HXB1.out.2
              go_simp
              try with_reducible rfl
            try simp only [List.getElem_toArray, List.getElem_cons_zero, List.getElem_cons_succ, Act.put, List.setIfInBounds_toArray, List.set_cons_zero, List.set_cons_succ]
            refine wpAnyH_ready (rs := [13]) (by kernel_rfl) (by simp) ?_
            refine AllReadyH.cons rfl (fun K hK => ?_) AllReadyH.nil
            go_simp
            refine (ordCmp xB1 yB1 _).mono ?_
            rintro e wB1 ⟨rfl, hbB1⟩
            have HLB1 := Lib.hid ((HL.out.drewN 1).below hbB1 HL.out.lt)
            have HBB1 := Lib.hid ((below_drewN HB.out 1).trans (hbB1.mono (Nat.le_trans hg (Nat.le_of_lt HL.out.lt))))
            clear hbB1
            refine hK.out _ _ ⟨HLB1.out, HBB1.out⟩ (fun _ => ?_)
            clear hK K
            try simp only [List.getElem_toArray, List.getElem_cons_zero, List.getElem_cons_succ, Act.put, List.setIfInBounds_toArray, List.set_cons_zero, List.set_cons_succ]
            refine wpAnyH_take (i := 14) (v := ?_) rfl (by kernel_rfl) (by kernel_rfl) (by kernel_rfl) (fun _ _ _ h => h) (Or.inl ⟨by rfl, ?_⟩) ⟨HLB1.out, HBB1.out⟩ ?_
            rotate_left
            · intro wS hSw
              go_simp
              try with_reducible rfl
            try simp only [List.getElem_toArray, List.getElem_cons_zero, List.getElem_cons_succ, Act.put, List.setIfInBounds_toArray, List.set_cons_zero, List.set_cons_succ]
            refine wpAnyH_take (i := 15) (v := ?_) rfl (by kernel_rfl) (by kernel_rfl) (by kernel_rfl) (fun _ _ _ h => h) (Or.inl ⟨by rfl, ?_⟩) ⟨HLB1.out, HBB1.out⟩ ?_
            rotate_left
            · intro wS hSw
              go_simp
              try with_reducible rfl
            try simp only [List.getElem_toArray, List.getElem_cons_zero, List.getElem_cons_succ, Act.put, List.setIfInBounds_toArray, List.set_cons_zero, List.set_cons_succ]
            refine wpAnyH_done (by kernel_rfl) ?_ _

            go_wp2
            first | go_end0 | refine bodyPost_ret (results_none rfl _ _ _) rfl ?_
            refine ⟨rfl, ?_, HBB1.out⟩
            rw [← HO.out, NOX.out hcQ]
            exact HLB1.out
          | true =>
            have hcQ := hcA
            obtain ⟨xB1, hxB1⟩ : ∃ x, x = dk[Y]! := ⟨_, rfl⟩
            obtain ⟨yB1, hyB1⟩ : ∃ x, x = dk[X]! := ⟨_, rfl⟩
            rw [← hxB1, ← hyB1] at hcA
            have hiB1 : Y < dk.size := by have := HZ.out; omega
            have hjB1 : X < dk.size := by have := HZ.out; omega
            have hvB1 : cfS xB1 yB1 < 0 := (cf_lt _ _).2 hcA
            have hdB1 : decide (cfS xB1 yB1 < 0) = true := decide_eq_true hvB1
            have HXB1 := Lib.hid (And.intro hxB1 hyB1)
            have HIB1 := Lib.hid (And.intro hiB1 hjB1)
            have HCB1 := Lib.hid hcA
            clear hxB1 hyB1 hiB1 hjB1 hcA
            go_wp2
            refine wp_region_held_drew (S := (fun wQq => Lies wQq g dk ∧ Below B w wQq)) (by kernel_rfl) (⟨HL.out.drewN 1, below_drewN HB.out 1⟩) (fun _ => ?_)
            refine wpAnyH_take (i := 0) (v := ?_) rfl (by kernel_rfl) (by kernel_rfl) (by kernel_rfl) (fun _ _ _ h => h) (Or.inl ⟨by rfl, ?_⟩) (⟨HL.out.drewN 1, below_drewN HB.out 1⟩) ?_
            rotate_left
            · intro wS hSw
              go_simp
              try with_reducible rfl
            try simp only [List.getElem_toArray, List.getElem_cons_zero, List.getElem_cons_succ, Act.put, List.setIfInBounds_toArray, List.set_cons_zero, List.set_cons_succ]
            refine wpAnyH_take (i := 1) (v := ?_) rfl (by kernel_rfl) (by kernel_rfl) (by kernel_rfl) (fun _ _ _ h => h) (Or.inl ⟨by rfl, ?_⟩) (⟨HL.out.drewN 1, below_drewN HB.out 1⟩) ?_
            rotate_left
            · intro wS hSw
              go_simp
              try with_reducible rfl
            try simp only [List.getElem_toArray, List.getElem_cons_zero, List.getElem_cons_succ, Act.put, List.setIfInBounds_toArray, List.set_cons_zero, List.set_cons_succ]
            refine wpAnyH_take (i := 2) (v := ?_) rfl (by kernel_rfl) (by kernel_rfl) (by kernel_rfl) (fun _ _ _ h => h) (Or.inl ⟨by rfl, ?_⟩) (⟨HL.out.drewN 1, below_drewN HB.out 1⟩) ?_
            rotate_left
            · intro wS hSw
              go_simp
              try with_reducible rfl
            try simp only [List.getElem_toArray, List.getElem_cons_zero, List.getElem_cons_succ, Act.put, List.setIfInBounds_toArray, List.set_cons_zero, List.set_cons_succ]
            refine wpAnyH_take (i := 3) (v := ?_) rfl (by kernel_rfl) (by kernel_rfl) (by kernel_rfl) (fun _ _ _ h => h) (Or.inl ⟨by rfl, ?_⟩) (⟨HL.out.drewN 1, below_drewN HB.out 1⟩) ?_
            rotate_left
            · intro wS hSw
              go_simp
              try with_reducible rfl
            try simp only [List.getElem_toArray, List.getElem_cons_zero, List.getElem_cons_succ, Act.put, List.setIfInBounds_toArray, List.set_cons_zero, List.set_cons_succ]
            refine wpAnyH_take (i := 4) (v := ?_) rfl (by kernel_rfl) (by kernel_rfl) (by kernel_rfl) (fun _ _ _ h => h) (Or.inl ⟨by rfl, ?_⟩) (⟨HL.out.drewN 1, below_drewN HB.out 1⟩) ?_
            rotate_left
            · intro wS hSw
              go_simp
              try with_reducible rfl
            try simp only [List.getElem_toArray, List.getElem_cons_zero, List.getElem_cons_succ, Act.put, List.setIfInBounds_toArray, List.set_cons_zero, List.set_cons_succ]
            refine wpAnyH_take (i := 5) (v := ?_) rfl (by kernel_rfl) (by kernel_rfl) (by kernel_rfl) (fun _ _ _ h => h) (Or.inl ⟨by rfl, ?_⟩) (⟨HL.out.drewN 1, below_drewN HB.out 1⟩) ?_
            rotate_left
            · intro wS hSw
              go_simp
              try with_reducible rfl
            try simp only [List.getElem_toArray, List.getElem_cons_zero, List.getElem_cons_succ, Act.put, List.setIfInBounds_toArray, List.set_cons_zero, List.set_cons_succ]
            refine wpAnyH_take (i := 7) (v := ?_) rfl (by kernel_rfl) (by kernel_rfl) (by kernel_rfl) (fun _ _ _ h => h) (Or.inl ⟨by rfl, ?_⟩) (⟨HL.out.drewN 1, below_drewN HB.out 1⟩) ?_
            rotate_left
            · intro wS hSw
              go_simp
              try with_reducible rfl
            try simp only [List.getElem_toArray, List.getElem_cons_zero, List.getElem_cons_succ, Act.put, List.setIfInBounds_toArray, List.set_cons_zero, List.set_cons_succ]
            refine wpAnyH_take (i := 8) (v := ?_) rfl (by kernel_rfl) (by kernel_rfl) (by kernel_rfl) (fun _ _ _ h => h) (Or.inl ⟨by rfl, ?_⟩) (⟨HL.out.drewN 1, below_drewN HB.out 1⟩) ?_
            rotate_left
            · intro wS hSw
              go_simp
              try with_reducible rfl
            try simp only [List.getElem_toArray, List.getElem_cons_zero, List.getElem_cons_succ, Act.put, List.setIfInBounds_toArray, List.set_cons_zero, List.set_cons_succ]
            refine wpAnyH_take (i := 9) (v := ?_) rfl (by kernel_rfl) (by kernel_rfl) (by kernel_rfl) (fun _ _ _ h => h) (Or.inl ⟨by rfl, ?_⟩) (⟨HL.out.drewN 1, below_drewN HB.out 1⟩) ?_
            rotate_left
            · intro wS hSw
              go_simp
              try with_reducible rfl
            try simp only [List.getElem_toArray, List.getElem_cons_zero, List.getElem_cons_succ, Act.put, List.setIfInBounds_toArray, List.set_cons_zero, List.set_cons_succ]
            refine wpAnyH_take (i := 10) (v := ?_) rfl (by kernel_rfl) (by kernel_rfl) (by kernel_rfl) (fun _ _ _ h => h) (Or.inl ⟨by rfl, ?_⟩) (⟨HL.out.drewN 1, below_drewN HB.out 1⟩) ?_
            rotate_left
            · intro wS hSw
              go_simp
              try with_reducible rfl
            try simp only [List.getElem_toArray, List.getElem_cons_zero, List.getElem_cons_succ, Act.put, List.setIfInBounds_toArray, List.set_cons_zero, List.set_cons_succ]
            refine wpAnyH_take (i := 11) (v := ?_) rfl (by kernel_rfl) (by kernel_rfl) (by kernel_rfl) (fun _ _ _ h => h) (Or.inl ⟨by rfl, ?_⟩) (⟨HL.out.drewN 1, below_drewN HB.out 1⟩) ?_
            rotate_left
            · intro wS hSw
              go_simp
              try with_reducible rfl
            try simp only [List.getElem_toArray, List.getElem_cons_zero, List.getElem_cons_succ, Act.put, List.setIfInBounds_toArray, List.set_cons_zero, List.set_cons_succ]
            refine wpAnyH_take (i := 6) (v := ?_) rfl (by kernel_rfl) (by kernel_rfl) (by kernel_rfl) (fun _ _ _ h => h) (Or.inl ⟨by rfl, ?_⟩) (⟨HL.out.drewN 1, below_drewN HB.out 1⟩) ?_
            rotate_left
            · intro wS hSw
              have hcv := hSw.1.at0 HIB1.out.1 HXB1.out.1
              have hcv2 := hSw.1.at1 HIB1.out.1 HXB1.out.1
              go_simp
              try with_reducible rfl
            try simp only [List.getElem_toArray, List.getElem_cons_zero, List.getElem_cons_succ, Act.put, List.setIfInBounds_toArray, List.set_cons_zero, List.set_cons_succ]
            refine wpAnyH_take (i := 12) (v := ?_) rfl (by kernel_rfl) (by kernel_rfl) (by kernel_rfl) (fun _ _ _ h => h) (Or.inl ⟨by rfl, ?_⟩) (⟨HL.out.drewN 1, below_drewN HB.out 1⟩) ?_
            rotate_left
            · intro wS hSw
              have hcv := hSw.1.at0 HIB1.out.2 HXB1.out.2
              have hcv2 := hSw.1.at1 HIB1.out.2 HXB1.out.2
              go_simp
              try with_reducible rfl
            try simp only [List.getElem_toArray, List.getElem_cons_zero, List.getElem_cons_succ, Act.put, List.setIfInBounds_toArray, List.set_cons_zero, List.set_cons_succ]
            refine wpAnyH_ready (rs := [13]) (by kernel_rfl) (by simp) ?_
            refine AllReadyH.cons rfl (fun K hK => ?_) AllReadyH.nil
            go_simp
            refine (ordCmp xB1 yB1 _).mono ?_
            rintro e wB1 ⟨rfl, hbB1⟩
            have HLB1 := Lib.hid ((HL.out.drewN 1).below hbB1 HL.out.lt)
            have HBB1 := Lib.hid ((below_drewN HB.out 1).trans (hbB1.mono (Nat.le_trans hg (Nat.le_of_lt HL.out.lt))))
            clear hbB1
            refine hK.out _ _ ⟨HLB1.out, HBB1.out⟩ (fun _ => ?_)
            clear hK K
            try simp only [List.getElem_toArray, List.getElem_cons_zero, List.getElem_cons_succ, Act.put, List.setIfInBounds_toArray, List.set_cons_zero, List.set_cons_succ]
            refine wpAnyH_take (i := 14) (v := ?_) rfl (by kernel_rfl) (by kernel_rfl) (by kernel_rfl) (fun _ _ _ h => h) (Or.inl ⟨by rfl, ?_⟩) ⟨HLB1.out, HBB1.out⟩ ?_
            rotate_left
            · intro wS hSw
              go_simp
              try with_reducible rfl
            try simp only [List.getElem_toArray, List.getElem_cons_zero, List.getElem_cons_succ, Act.put, List.setIfInBounds_toArray, List.set_cons_zero, List.set_cons_succ]
            refine wpAnyH_take (i := 15) (v := ?_) rfl (by kernel_rfl) (by kernel_rfl) (by kernel_rfl) (fun _ _ _ h => h) (Or.inl ⟨by rfl, ?_⟩) ⟨HLB1.out, HBB1.out⟩ ?_
            rotate_left
            · intro wS hSw
              go_simp
              try with_reducible rfl
            try simp only [List.getElem_toArray, List.getElem_cons_zero, List.getElem_cons_succ, Act.put, List.setIfInBounds_toArray, List.set_cons_zero, List.set_cons_succ]
            refine wpAnyH_done (by kernel_rfl) ?_ _

            have GO : Hid (Go.Sort.siftDown ltS hi F C (Go.Sort.swp dk Y X) = Go.Sort.siftDown ltS hi F lo d) := Lib.hid ((GOX.out hcQ).symm.trans HO.out)
            go_wp2
            obtain ⟨pS, hpS⟩ : ∃ x, x = dk[Y]! := ⟨_, rfl⟩
            obtain ⟨qS, hqS⟩ : ∃ x, x = dk[X]! := ⟨_, rfl⟩
            have hSS := HLB1.out.swap (i := Y) (j := X) (by have := HZ.out; omega) (by have := HZ.out; omega)
            rw [← hpS, ← hqS] at hSS
            have HSS := Lib.hid hSS
            have HTS := Lib.hid (below4 HBB1.out hg ((Y) * 2) ((Y) * 2 + 1) ((X) * 2) ((X) * 2 + 1) (.string qS.1) (.string qS.2) (.string pS.1) (.string pS.2))
            have l0S := HLB1.out.at0 (i := Y) (by have := HZ.out; omega) hpS
            have l1S := HLB1.out.at1 (i := Y) (by have := HZ.out; omega) hpS
            have l2S := HLB1.out.at0 (i := X) (by have := HZ.out; omega) hqS
            have l3S := HLB1.out.at1 (i := X) (by have := HZ.out; omega) hqS
            have f0S := HLB1.out.fr ((Y) * 2)
            have f1S := HLB1.out.fr ((Y) * 2 + 1)
            have f2S := HLB1.out.fr ((X) * 2)
            have f3S := HLB1.out.fr ((X) * 2 + 1)
            obtain ⟨v2S, m2S⟩ := HLB1.out.ex ((X) * 2) ((Y) * 2) (.string qS.1) (by have hjz : X < dk.size := (by have := HZ.out; omega); omega)
            obtain ⟨v3S, m3S⟩ := HLB1.out.ex2 ((X) * 2 + 1) ((Y) * 2) ((Y) * 2 + 1) (.string qS.1) (.string qS.2) (by have hjz : X < dk.size := (by have := HZ.out; omega); omega)
            clear hpS hqS hSS

            go_region
            all_goals (try go_wp2)
            go_roundw
            case rel => exact ⟨C, _, by first | rfl | go_num, by omega, Lib.hid (by rw [Go.Sort.size_swp]; exact HZ.out), Lib.hid (HSS.out.drewN 1), Lib.hid (below_drewN HTS.out 1), GO⟩
            case measure => first | (simp [Go.RowKit.intOf]; done) | (simp [Go.RowKit.intOf]; omega)

      · have k1 : ¬ (K : Int) < (hi : Int) := by omega
        have HT : Hid (2 * r + 1 + 1 < hi → ltS dk[F + (2 * r + 1)]! dk[F + (2 * r + 1) + 1]! = false) := Lib.hid fun h => absurd h (by omega)
        have GOX : Hid (ltS dk[Y]! dk[X]! = true → Go.Sort.siftDown ltS hi F r dk = Go.Sort.siftDown ltS hi F C (Go.Sort.swp dk Y X)) := Lib.hid (by rw [HE.out.1, HE.out.2.2.1, HE.out.2.2.2.2]; intro h; exact sift_L_go hge HT.out h)
        have NOX : Hid (ltS dk[Y]! dk[X]! = false → Go.Sort.siftDown ltS hi F r dk = dk) := Lib.hid (by rw [HE.out.2.2.1, HE.out.2.2.2.2]; intro h; exact sift_L_no hge HT.out h)
        clear hC hK hX hZ hY
        go_wp2
        refine wp_region_held_drew (S := (fun _ => True)) (by kernel_rfl) trivial (fun _ => ?_)
        refine wpAnyH_take (i := 0) (v := ?_) rfl (by kernel_rfl) (by kernel_rfl) (by kernel_rfl) (fun _ _ _ h => h) (Or.inl ⟨by rfl, ?_⟩) trivial ?_
        rotate_left
        · intro wS hSw
          go_simp
          try with_reducible rfl
        try simp only [List.getElem_toArray, List.getElem_cons_zero, List.getElem_cons_succ, Act.put, List.setIfInBounds_toArray, List.set_cons_zero, List.set_cons_succ]
        refine wpAnyH_take (i := 1) (v := ?_) rfl (by kernel_rfl) (by kernel_rfl) (by kernel_rfl) (fun _ _ _ h => h) (Or.inl ⟨by rfl, ?_⟩) trivial ?_
        rotate_left
        · intro wS hSw
          go_simp
          try with_reducible rfl
        try simp only [List.getElem_toArray, List.getElem_cons_zero, List.getElem_cons_succ, Act.put, List.setIfInBounds_toArray, List.set_cons_zero, List.set_cons_succ]
        refine wpAnyH_take (i := 2) (v := ?_) rfl (by kernel_rfl) (by kernel_rfl) (by kernel_rfl) (fun _ _ _ h => h) (Or.inl ⟨by rfl, ?_⟩) trivial ?_
        rotate_left
        · intro wS hSw
          go_simp
          try with_reducible rfl
        try simp only [List.getElem_toArray, List.getElem_cons_zero, List.getElem_cons_succ, Act.put, List.setIfInBounds_toArray, List.set_cons_zero, List.set_cons_succ]
        refine wpAnyH_take (i := 3) (v := ?_) rfl (by kernel_rfl) (by kernel_rfl) (by kernel_rfl) (fun _ _ _ h => h) (Or.inl ⟨by rfl, ?_⟩) trivial ?_
        rotate_left
        · intro wS hSw
          go_simp
          try with_reducible rfl
        try simp only [List.getElem_toArray, List.getElem_cons_zero, List.getElem_cons_succ, Act.put, List.setIfInBounds_toArray, List.set_cons_zero, List.set_cons_succ]
        refine wpAnyH_take (i := 4) (v := ?_) rfl (by kernel_rfl) (by kernel_rfl) (by kernel_rfl) (fun _ _ _ h => h) (Or.inl ⟨by rfl, ?_⟩) trivial ?_
        rotate_left
        · intro wS hSw
          go_simp
          try with_reducible rfl
        try simp only [List.getElem_toArray, List.getElem_cons_zero, List.getElem_cons_succ, Act.put, List.setIfInBounds_toArray, List.set_cons_zero, List.set_cons_succ]
        refine wpAnyH_take (i := 5) (v := undef) rfl (by kernel_rfl) (by kernel_rfl) (by kernel_rfl) (fun _ _ _ h => h) (Or.inr ⟨by rfl, rfl⟩) trivial ?_
        try simp only [List.getElem_toArray, List.getElem_cons_zero, List.getElem_cons_succ, Act.put, List.setIfInBounds_toArray, List.set_cons_zero, List.set_cons_succ]
        refine wpAnyH_take (i := 6) (v := undef) rfl (by kernel_rfl) (by kernel_rfl) (by kernel_rfl) (fun _ _ _ h => h) (Or.inr ⟨by rfl, rfl⟩) trivial ?_
        try simp only [List.getElem_toArray, List.getElem_cons_zero, List.getElem_cons_succ, Act.put, List.setIfInBounds_toArray, List.set_cons_zero, List.set_cons_succ]
        refine wpAnyH_take (i := 7) (v := undef) rfl (by kernel_rfl) (by kernel_rfl) (by kernel_rfl) (fun _ _ _ h => h) (Or.inr ⟨by rfl, rfl⟩) trivial ?_
        try simp only [List.getElem_toArray, List.getElem_cons_zero, List.getElem_cons_succ, Act.put, List.setIfInBounds_toArray, List.set_cons_zero, List.set_cons_succ]
        refine wpAnyH_take (i := 8) (v := undef) rfl (by kernel_rfl) (by kernel_rfl) (by kernel_rfl) (fun _ _ _ h => h) (Or.inr ⟨by rfl, rfl⟩) trivial ?_
        try simp only [List.getElem_toArray, List.getElem_cons_zero, List.getElem_cons_succ, Act.put, List.setIfInBounds_toArray, List.set_cons_zero, List.set_cons_succ]
        refine wpAnyH_take (i := 9) (v := undef) rfl (by kernel_rfl) (by kernel_rfl) (by kernel_rfl) (fun _ _ _ h => h) (Or.inr ⟨by rfl, rfl⟩) trivial ?_
        try simp only [List.getElem_toArray, List.getElem_cons_zero, List.getElem_cons_succ, Act.put, List.setIfInBounds_toArray, List.set_cons_zero, List.set_cons_succ]
        refine wpAnyH_take (i := 10) (v := undef) rfl (by kernel_rfl) (by kernel_rfl) (by kernel_rfl) (fun _ _ _ h => h) (Or.inr ⟨by rfl, rfl⟩) trivial ?_
        try simp only [List.getElem_toArray, List.getElem_cons_zero, List.getElem_cons_succ, Act.put, List.setIfInBounds_toArray, List.set_cons_zero, List.set_cons_succ]
        refine wpAnyH_take (i := 11) (v := undef) rfl (by kernel_rfl) (by kernel_rfl) (by kernel_rfl) (fun _ _ _ h => h) (Or.inr ⟨by rfl, rfl⟩) trivial ?_
        try simp only [List.getElem_toArray, List.getElem_cons_zero, List.getElem_cons_succ, Act.put, List.setIfInBounds_toArray, List.set_cons_zero, List.set_cons_succ]
        refine wpAnyH_take (i := 12) (v := undef) rfl (by kernel_rfl) (by kernel_rfl) (by kernel_rfl) (fun _ _ _ h => h) (Or.inr ⟨by rfl, rfl⟩) trivial ?_
        try simp only [List.getElem_toArray, List.getElem_cons_zero, List.getElem_cons_succ, Act.put, List.setIfInBounds_toArray, List.set_cons_zero, List.set_cons_succ]
        refine wpAnyH_take (i := 13) (v := undef) rfl (by kernel_rfl) (by kernel_rfl) (by kernel_rfl) (fun _ _ _ h => h) (Or.inr ⟨by rfl, rfl⟩) trivial ?_
        try simp only [List.getElem_toArray, List.getElem_cons_zero, List.getElem_cons_succ, Act.put, List.setIfInBounds_toArray, List.set_cons_zero, List.set_cons_succ]
        refine wpAnyH_take (i := 14) (v := undef) rfl (by kernel_rfl) (by kernel_rfl) (by kernel_rfl) (fun _ _ _ h => h) (Or.inr ⟨by rfl, rfl⟩) trivial ?_
        try simp only [List.getElem_toArray, List.getElem_cons_zero, List.getElem_cons_succ, Act.put, List.setIfInBounds_toArray, List.set_cons_zero, List.set_cons_succ]
        refine wpAnyH_take (i := 15) (v := undef) rfl (by kernel_rfl) (by kernel_rfl) (by kernel_rfl) (fun _ _ _ h => h) (Or.inr ⟨by rfl, rfl⟩) trivial ?_
        try simp only [List.getElem_toArray, List.getElem_cons_zero, List.getElem_cons_succ, Act.put, List.setIfInBounds_toArray, List.set_cons_zero, List.set_cons_succ]
        refine wpAnyH_take (i := 16) (v := undef) rfl (by kernel_rfl) (by kernel_rfl) (by kernel_rfl) (fun _ _ _ h => h) (Or.inr ⟨by rfl, rfl⟩) trivial ?_
        try simp only [List.getElem_toArray, List.getElem_cons_zero, List.getElem_cons_succ, Act.put, List.setIfInBounds_toArray, List.set_cons_zero, List.set_cons_succ]
        refine wpAnyH_take (i := 17) (v := undef) rfl (by kernel_rfl) (by kernel_rfl) (by kernel_rfl) (fun _ _ _ h => h) (Or.inr ⟨by rfl, rfl⟩) trivial ?_
        try simp only [List.getElem_toArray, List.getElem_cons_zero, List.getElem_cons_succ, Act.put, List.setIfInBounds_toArray, List.set_cons_zero, List.set_cons_succ]
        refine wpAnyH_take (i := 18) (v := undef) rfl (by kernel_rfl) (by kernel_rfl) (by kernel_rfl) (fun _ _ _ h => h) (Or.inr ⟨by rfl, rfl⟩) trivial ?_
        try simp only [List.getElem_toArray, List.getElem_cons_zero, List.getElem_cons_succ, Act.put, List.setIfInBounds_toArray, List.set_cons_zero, List.set_cons_succ]
        refine wpAnyH_take (i := 19) (v := undef) rfl (by kernel_rfl) (by kernel_rfl) (by kernel_rfl) (fun _ _ _ h => h) (Or.inr ⟨by rfl, rfl⟩) trivial ?_
        try simp only [List.getElem_toArray, List.getElem_cons_zero, List.getElem_cons_succ, Act.put, List.setIfInBounds_toArray, List.set_cons_zero, List.set_cons_succ]
        refine wpAnyH_take (i := 20) (v := undef) rfl (by kernel_rfl) (by kernel_rfl) (by kernel_rfl) (fun _ _ _ h => h) (Or.inr ⟨by rfl, rfl⟩) trivial ?_
        try simp only [List.getElem_toArray, List.getElem_cons_zero, List.getElem_cons_succ, Act.put, List.setIfInBounds_toArray, List.set_cons_zero, List.set_cons_succ]
        refine wpAnyH_take (i := 21) (v := ?_) rfl (by kernel_rfl) (by kernel_rfl) (by kernel_rfl) (fun _ _ _ h => h) (Or.inl ⟨by rfl, ?_⟩) trivial ?_
        rotate_left
        · intro wS hSw
          go_simp
          try with_reducible rfl
        try simp only [List.getElem_toArray, List.getElem_cons_zero, List.getElem_cons_succ, Act.put, List.setIfInBounds_toArray, List.set_cons_zero, List.set_cons_succ]
        refine wpAnyH_done (by kernel_rfl) ?_ _
        have HLX := Lib.hid (HL.out.drewN 1)
        have HBX := Lib.hid (below_drewN HB.out 1)
        clear HL HB
        have HL := HLX
        have HB := HBX
        go_wp2
        cases hcA : ltS dk[Y]! dk[X]! with
        | false =>
          have hcQ := hcA
          obtain ⟨xB1, hxB1⟩ : ∃ x, x = dk[Y]! := ⟨_, rfl⟩
          obtain ⟨yB1, hyB1⟩ : ∃ x, x = dk[X]! := ⟨_, rfl⟩
          rw [← hxB1, ← hyB1] at hcA
          have hiB1 : Y < dk.size := by have := HZ.out; omega
          have hjB1 : X < dk.size := by have := HZ.out; omega
          have hvB1 : ¬ cfS xB1 yB1 < 0 := (cf_lt_no _ _).2 hcA
          have hdB1 : decide (cfS xB1 yB1 < 0) = false := decide_eq_false hvB1
          have HXB1 := Lib.hid (And.intro hxB1 hyB1)
          have HIB1 := Lib.hid (And.intro hiB1 hjB1)
          have HCB1 := Lib.hid hcA
          clear hxB1 hyB1 hiB1 hjB1 hcA
          go_wp2
          refine wp_region_held_drew (S := (fun wQq => Lies wQq g dk ∧ Below B w wQq)) (by kernel_rfl) (⟨HL.out.drewN 1, below_drewN HB.out 1⟩) (fun _ => ?_)
          refine wpAnyH_take (i := 0) (v := ?_) rfl (by kernel_rfl) (by kernel_rfl) (by kernel_rfl) (fun _ _ _ h => h) (Or.inl ⟨by rfl, ?_⟩) (⟨HL.out.drewN 1, below_drewN HB.out 1⟩) ?_
          rotate_left
          · intro wS hSw
            go_simp
            try with_reducible rfl
          try simp only [List.getElem_toArray, List.getElem_cons_zero, List.getElem_cons_succ, Act.put, List.setIfInBounds_toArray, List.set_cons_zero, List.set_cons_succ]
          refine wpAnyH_take (i := 1) (v := ?_) rfl (by kernel_rfl) (by kernel_rfl) (by kernel_rfl) (fun _ _ _ h => h) (Or.inl ⟨by rfl, ?_⟩) (⟨HL.out.drewN 1, below_drewN HB.out 1⟩) ?_
          rotate_left
          · intro wS hSw
            go_simp
            try with_reducible rfl
          try simp only [List.getElem_toArray, List.getElem_cons_zero, List.getElem_cons_succ, Act.put, List.setIfInBounds_toArray, List.set_cons_zero, List.set_cons_succ]
          refine wpAnyH_take (i := 2) (v := ?_) rfl (by kernel_rfl) (by kernel_rfl) (by kernel_rfl) (fun _ _ _ h => h) (Or.inl ⟨by rfl, ?_⟩) (⟨HL.out.drewN 1, below_drewN HB.out 1⟩) ?_
          rotate_left
          · intro wS hSw
            go_simp
            try with_reducible rfl
          try simp only [List.getElem_toArray, List.getElem_cons_zero, List.getElem_cons_succ, Act.put, List.setIfInBounds_toArray, List.set_cons_zero, List.set_cons_succ]
          refine wpAnyH_take (i := 3) (v := ?_) rfl (by kernel_rfl) (by kernel_rfl) (by kernel_rfl) (fun _ _ _ h => h) (Or.inl ⟨by rfl, ?_⟩) (⟨HL.out.drewN 1, below_drewN HB.out 1⟩) ?_
          rotate_left
          · intro wS hSw
            go_simp
            try with_reducible rfl
          try simp only [List.getElem_toArray, List.getElem_cons_zero, List.getElem_cons_succ, Act.put, List.setIfInBounds_toArray, List.set_cons_zero, List.set_cons_succ]
          refine wpAnyH_take (i := 4) (v := ?_) rfl (by kernel_rfl) (by kernel_rfl) (by kernel_rfl) (fun _ _ _ h => h) (Or.inl ⟨by rfl, ?_⟩) (⟨HL.out.drewN 1, below_drewN HB.out 1⟩) ?_
          rotate_left
          · intro wS hSw
            go_simp
            try with_reducible rfl
          try simp only [List.getElem_toArray, List.getElem_cons_zero, List.getElem_cons_succ, Act.put, List.setIfInBounds_toArray, List.set_cons_zero, List.set_cons_succ]
          refine wpAnyH_take (i := 5) (v := ?_) rfl (by kernel_rfl) (by kernel_rfl) (by kernel_rfl) (fun _ _ _ h => h) (Or.inl ⟨by rfl, ?_⟩) (⟨HL.out.drewN 1, below_drewN HB.out 1⟩) ?_
          rotate_left
          · intro wS hSw
            go_simp
            try with_reducible rfl
          try simp only [List.getElem_toArray, List.getElem_cons_zero, List.getElem_cons_succ, Act.put, List.setIfInBounds_toArray, List.set_cons_zero, List.set_cons_succ]
          refine wpAnyH_take (i := 7) (v := ?_) rfl (by kernel_rfl) (by kernel_rfl) (by kernel_rfl) (fun _ _ _ h => h) (Or.inl ⟨by rfl, ?_⟩) (⟨HL.out.drewN 1, below_drewN HB.out 1⟩) ?_
          rotate_left
          · intro wS hSw
            go_simp
            try with_reducible rfl
          try simp only [List.getElem_toArray, List.getElem_cons_zero, List.getElem_cons_succ, Act.put, List.setIfInBounds_toArray, List.set_cons_zero, List.set_cons_succ]
          refine wpAnyH_take (i := 8) (v := ?_) rfl (by kernel_rfl) (by kernel_rfl) (by kernel_rfl) (fun _ _ _ h => h) (Or.inl ⟨by rfl, ?_⟩) (⟨HL.out.drewN 1, below_drewN HB.out 1⟩) ?_
          rotate_left
          · intro wS hSw
            go_simp
            try with_reducible rfl
          try simp only [List.getElem_toArray, List.getElem_cons_zero, List.getElem_cons_succ, Act.put, List.setIfInBounds_toArray, List.set_cons_zero, List.set_cons_succ]
          refine wpAnyH_take (i := 9) (v := ?_) rfl (by kernel_rfl) (by kernel_rfl) (by kernel_rfl) (fun _ _ _ h => h) (Or.inl ⟨by rfl, ?_⟩) (⟨HL.out.drewN 1, below_drewN HB.out 1⟩) ?_
          rotate_left
          · intro wS hSw
            go_simp
            try with_reducible rfl
          try simp only [List.getElem_toArray, List.getElem_cons_zero, List.getElem_cons_succ, Act.put, List.setIfInBounds_toArray, List.set_cons_zero, List.set_cons_succ]
          refine wpAnyH_take (i := 10) (v := ?_) rfl (by kernel_rfl) (by kernel_rfl) (by kernel_rfl) (fun _ _ _ h => h) (Or.inl ⟨by rfl, ?_⟩) (⟨HL.out.drewN 1, below_drewN HB.out 1⟩) ?_
          rotate_left
          · intro wS hSw
            go_simp
            try with_reducible rfl
          try simp only [List.getElem_toArray, List.getElem_cons_zero, List.getElem_cons_succ, Act.put, List.setIfInBounds_toArray, List.set_cons_zero, List.set_cons_succ]
          refine wpAnyH_take (i := 11) (v := ?_) rfl (by kernel_rfl) (by kernel_rfl) (by kernel_rfl) (fun _ _ _ h => h) (Or.inl ⟨by rfl, ?_⟩) (⟨HL.out.drewN 1, below_drewN HB.out 1⟩) ?_
          rotate_left
          · intro wS hSw
            go_simp
            try with_reducible rfl
          try simp only [List.getElem_toArray, List.getElem_cons_zero, List.getElem_cons_succ, Act.put, List.setIfInBounds_toArray, List.set_cons_zero, List.set_cons_succ]
          refine wpAnyH_take (i := 6) (v := ?_) rfl (by kernel_rfl) (by kernel_rfl) (by kernel_rfl) (fun _ _ _ h => h) (Or.inl ⟨by rfl, ?_⟩) (⟨HL.out.drewN 1, below_drewN HB.out 1⟩) ?_
          rotate_left
          · intro wS hSw
            have hcv := hSw.1.at0 HIB1.out.1 HXB1.out.1
            have hcv2 := hSw.1.at1 HIB1.out.1 HXB1.out.1
            go_simp
            try with_reducible rfl
          try simp only [List.getElem_toArray, List.getElem_cons_zero, List.getElem_cons_succ, Act.put, List.setIfInBounds_toArray, List.set_cons_zero, List.set_cons_succ]
          refine wpAnyH_take (i := 12) (v := ?_) rfl (by kernel_rfl) (by kernel_rfl) (by kernel_rfl) (fun _ _ _ h => h) (Or.inl ⟨by rfl, ?_⟩) (⟨HL.out.drewN 1, below_drewN HB.out 1⟩) ?_
          rotate_left
          · intro wS hSw
            have hcv := hSw.1.at0 HIB1.out.2 HXB1.out.2
            have hcv2 := hSw.1.at1 HIB1.out.2 HXB1.out.2
            go_simp
            try with_reducible rfl
          try simp only [List.getElem_toArray, List.getElem_cons_zero, List.getElem_cons_succ, Act.put, List.setIfInBounds_toArray, List.set_cons_zero, List.set_cons_succ]
          refine wpAnyH_ready (rs := [13]) (by kernel_rfl) (by simp) ?_
          refine AllReadyH.cons rfl (fun K hK => ?_) AllReadyH.nil
          go_simp
          refine (ordCmp xB1 yB1 _).mono ?_
          rintro e wB1 ⟨rfl, hbB1⟩
          have HLB1 := Lib.hid ((HL.out.drewN 1).below hbB1 HL.out.lt)
          have HBB1 := Lib.hid ((below_drewN HB.out 1).trans (hbB1.mono (Nat.le_trans hg (Nat.le_of_lt HL.out.lt))))
          clear hbB1
          refine hK.out _ _ ⟨HLB1.out, HBB1.out⟩ (fun _ => ?_)
          clear hK K
          try simp only [List.getElem_toArray, List.getElem_cons_zero, List.getElem_cons_succ, Act.put, List.setIfInBounds_toArray, List.set_cons_zero, List.set_cons_succ]
          refine wpAnyH_take (i := 14) (v := ?_) rfl (by kernel_rfl) (by kernel_rfl) (by kernel_rfl) (fun _ _ _ h => h) (Or.inl ⟨by rfl, ?_⟩) ⟨HLB1.out, HBB1.out⟩ ?_
          rotate_left
          · intro wS hSw
            go_simp
            try with_reducible rfl
          try simp only [List.getElem_toArray, List.getElem_cons_zero, List.getElem_cons_succ, Act.put, List.setIfInBounds_toArray, List.set_cons_zero, List.set_cons_succ]
          refine wpAnyH_take (i := 15) (v := ?_) rfl (by kernel_rfl) (by kernel_rfl) (by kernel_rfl) (fun _ _ _ h => h) (Or.inl ⟨by rfl, ?_⟩) ⟨HLB1.out, HBB1.out⟩ ?_
          rotate_left
          · intro wS hSw
            go_simp
            try with_reducible rfl
          try simp only [List.getElem_toArray, List.getElem_cons_zero, List.getElem_cons_succ, Act.put, List.setIfInBounds_toArray, List.set_cons_zero, List.set_cons_succ]
          refine wpAnyH_done (by kernel_rfl) ?_ _

          go_wp2
          first | go_end0 | refine bodyPost_ret (results_none rfl _ _ _) rfl ?_
          refine ⟨rfl, ?_, HBB1.out⟩
          rw [← HO.out, NOX.out hcQ]
          exact HLB1.out
        | true =>
          have hcQ := hcA
          obtain ⟨xB1, hxB1⟩ : ∃ x, x = dk[Y]! := ⟨_, rfl⟩
          obtain ⟨yB1, hyB1⟩ : ∃ x, x = dk[X]! := ⟨_, rfl⟩
          rw [← hxB1, ← hyB1] at hcA
          have hiB1 : Y < dk.size := by have := HZ.out; omega
          have hjB1 : X < dk.size := by have := HZ.out; omega
          have hvB1 : cfS xB1 yB1 < 0 := (cf_lt _ _).2 hcA
          have hdB1 : decide (cfS xB1 yB1 < 0) = true := decide_eq_true hvB1
          have HXB1 := Lib.hid (And.intro hxB1 hyB1)
          have HIB1 := Lib.hid (And.intro hiB1 hjB1)
          have HCB1 := Lib.hid hcA
          clear hxB1 hyB1 hiB1 hjB1 hcA
          go_wp2
          refine wp_region_held_drew (S := (fun wQq => Lies wQq g dk ∧ Below B w wQq)) (by kernel_rfl) (⟨HL.out.drewN 1, below_drewN HB.out 1⟩) (fun _ => ?_)
          refine wpAnyH_take (i := 0) (v := ?_) rfl (by kernel_rfl) (by kernel_rfl) (by kernel_rfl) (fun _ _ _ h => h) (Or.inl ⟨by rfl, ?_⟩) (⟨HL.out.drewN 1, below_drewN HB.out 1⟩) ?_
          rotate_left
          · intro wS hSw
            go_simp
            try with_reducible rfl
          try simp only [List.getElem_toArray, List.getElem_cons_zero, List.getElem_cons_succ, Act.put, List.setIfInBounds_toArray, List.set_cons_zero, List.set_cons_succ]
          refine wpAnyH_take (i := 1) (v := ?_) rfl (by kernel_rfl) (by kernel_rfl) (by kernel_rfl) (fun _ _ _ h => h) (Or.inl ⟨by rfl, ?_⟩) (⟨HL.out.drewN 1, below_drewN HB.out 1⟩) ?_
          rotate_left
          · intro wS hSw
            go_simp
            try with_reducible rfl
          try simp only [List.getElem_toArray, List.getElem_cons_zero, List.getElem_cons_succ, Act.put, List.setIfInBounds_toArray, List.set_cons_zero, List.set_cons_succ]
          refine wpAnyH_take (i := 2) (v := ?_) rfl (by kernel_rfl) (by kernel_rfl) (by kernel_rfl) (fun _ _ _ h => h) (Or.inl ⟨by rfl, ?_⟩) (⟨HL.out.drewN 1, below_drewN HB.out 1⟩) ?_
          rotate_left
          · intro wS hSw
            go_simp
            try with_reducible rfl
          try simp only [List.getElem_toArray, List.getElem_cons_zero, List.getElem_cons_succ, Act.put, List.setIfInBounds_toArray, List.set_cons_zero, List.set_cons_succ]
          refine wpAnyH_take (i := 3) (v := ?_) rfl (by kernel_rfl) (by kernel_rfl) (by kernel_rfl) (fun _ _ _ h => h) (Or.inl ⟨by rfl, ?_⟩) (⟨HL.out.drewN 1, below_drewN HB.out 1⟩) ?_
          rotate_left
          · intro wS hSw
            go_simp
            try with_reducible rfl
          try simp only [List.getElem_toArray, List.getElem_cons_zero, List.getElem_cons_succ, Act.put, List.setIfInBounds_toArray, List.set_cons_zero, List.set_cons_succ]
          refine wpAnyH_take (i := 4) (v := ?_) rfl (by kernel_rfl) (by kernel_rfl) (by kernel_rfl) (fun _ _ _ h => h) (Or.inl ⟨by rfl, ?_⟩) (⟨HL.out.drewN 1, below_drewN HB.out 1⟩) ?_
          rotate_left
          · intro wS hSw
            go_simp
            try with_reducible rfl
          try simp only [List.getElem_toArray, List.getElem_cons_zero, List.getElem_cons_succ, Act.put, List.setIfInBounds_toArray, List.set_cons_zero, List.set_cons_succ]
          refine wpAnyH_take (i := 5) (v := ?_) rfl (by kernel_rfl) (by kernel_rfl) (by kernel_rfl) (fun _ _ _ h => h) (Or.inl ⟨by rfl, ?_⟩) (⟨HL.out.drewN 1, below_drewN HB.out 1⟩) ?_
          rotate_left
          · intro wS hSw
            go_simp
            try with_reducible rfl
          try simp only [List.getElem_toArray, List.getElem_cons_zero, List.getElem_cons_succ, Act.put, List.setIfInBounds_toArray, List.set_cons_zero, List.set_cons_succ]
          refine wpAnyH_take (i := 7) (v := ?_) rfl (by kernel_rfl) (by kernel_rfl) (by kernel_rfl) (fun _ _ _ h => h) (Or.inl ⟨by rfl, ?_⟩) (⟨HL.out.drewN 1, below_drewN HB.out 1⟩) ?_
          rotate_left
          · intro wS hSw
            go_simp
            try with_reducible rfl
          try simp only [List.getElem_toArray, List.getElem_cons_zero, List.getElem_cons_succ, Act.put, List.setIfInBounds_toArray, List.set_cons_zero, List.set_cons_succ]
          refine wpAnyH_take (i := 8) (v := ?_) rfl (by kernel_rfl) (by kernel_rfl) (by kernel_rfl) (fun _ _ _ h => h) (Or.inl ⟨by rfl, ?_⟩) (⟨HL.out.drewN 1, below_drewN HB.out 1⟩) ?_
          rotate_left
          · intro wS hSw
            go_simp
            try with_reducible rfl
          try simp only [List.getElem_toArray, List.getElem_cons_zero, List.getElem_cons_succ, Act.put, List.setIfInBounds_toArray, List.set_cons_zero, List.set_cons_succ]
          refine wpAnyH_take (i := 9) (v := ?_) rfl (by kernel_rfl) (by kernel_rfl) (by kernel_rfl) (fun _ _ _ h => h) (Or.inl ⟨by rfl, ?_⟩) (⟨HL.out.drewN 1, below_drewN HB.out 1⟩) ?_
          rotate_left
          · intro wS hSw
            go_simp
            try with_reducible rfl
          try simp only [List.getElem_toArray, List.getElem_cons_zero, List.getElem_cons_succ, Act.put, List.setIfInBounds_toArray, List.set_cons_zero, List.set_cons_succ]
          refine wpAnyH_take (i := 10) (v := ?_) rfl (by kernel_rfl) (by kernel_rfl) (by kernel_rfl) (fun _ _ _ h => h) (Or.inl ⟨by rfl, ?_⟩) (⟨HL.out.drewN 1, below_drewN HB.out 1⟩) ?_
          rotate_left
          · intro wS hSw
            go_simp
            try with_reducible rfl
          try simp only [List.getElem_toArray, List.getElem_cons_zero, List.getElem_cons_succ, Act.put, List.setIfInBounds_toArray, List.set_cons_zero, List.set_cons_succ]
          refine wpAnyH_take (i := 11) (v := ?_) rfl (by kernel_rfl) (by kernel_rfl) (by kernel_rfl) (fun _ _ _ h => h) (Or.inl ⟨by rfl, ?_⟩) (⟨HL.out.drewN 1, below_drewN HB.out 1⟩) ?_
          rotate_left
          · intro wS hSw
            go_simp
            try with_reducible rfl
          try simp only [List.getElem_toArray, List.getElem_cons_zero, List.getElem_cons_succ, Act.put, List.setIfInBounds_toArray, List.set_cons_zero, List.set_cons_succ]
          refine wpAnyH_take (i := 6) (v := ?_) rfl (by kernel_rfl) (by kernel_rfl) (by kernel_rfl) (fun _ _ _ h => h) (Or.inl ⟨by rfl, ?_⟩) (⟨HL.out.drewN 1, below_drewN HB.out 1⟩) ?_
          rotate_left
          · intro wS hSw
            have hcv := hSw.1.at0 HIB1.out.1 HXB1.out.1
            have hcv2 := hSw.1.at1 HIB1.out.1 HXB1.out.1
            go_simp
            try with_reducible rfl
          try simp only [List.getElem_toArray, List.getElem_cons_zero, List.getElem_cons_succ, Act.put, List.setIfInBounds_toArray, List.set_cons_zero, List.set_cons_succ]
          refine wpAnyH_take (i := 12) (v := ?_) rfl (by kernel_rfl) (by kernel_rfl) (by kernel_rfl) (fun _ _ _ h => h) (Or.inl ⟨by rfl, ?_⟩) (⟨HL.out.drewN 1, below_drewN HB.out 1⟩) ?_
          rotate_left
          · intro wS hSw
            have hcv := hSw.1.at0 HIB1.out.2 HXB1.out.2
            have hcv2 := hSw.1.at1 HIB1.out.2 HXB1.out.2
            go_simp
            try with_reducible rfl
          try simp only [List.getElem_toArray, List.getElem_cons_zero, List.getElem_cons_succ, Act.put, List.setIfInBounds_toArray, List.set_cons_zero, List.set_cons_succ]
          refine wpAnyH_ready (rs := [13]) (by kernel_rfl) (by simp) ?_
          refine AllReadyH.cons rfl (fun K hK => ?_) AllReadyH.nil
          go_simp
          refine (ordCmp xB1 yB1 _).mono ?_
          rintro e wB1 ⟨rfl, hbB1⟩
          have HLB1 := Lib.hid ((HL.out.drewN 1).below hbB1 HL.out.lt)
          have HBB1 := Lib.hid ((below_drewN HB.out 1).trans (hbB1.mono (Nat.le_trans hg (Nat.le_of_lt HL.out.lt))))
          clear hbB1
          refine hK.out _ _ ⟨HLB1.out, HBB1.out⟩ (fun _ => ?_)
          clear hK K
          try simp only [List.getElem_toArray, List.getElem_cons_zero, List.getElem_cons_succ, Act.put, List.setIfInBounds_toArray, List.set_cons_zero, List.set_cons_succ]
          refine wpAnyH_take (i := 14) (v := ?_) rfl (by kernel_rfl) (by kernel_rfl) (by kernel_rfl) (fun _ _ _ h => h) (Or.inl ⟨by rfl, ?_⟩) ⟨HLB1.out, HBB1.out⟩ ?_
          rotate_left
          · intro wS hSw
            go_simp
            try with_reducible rfl
          try simp only [List.getElem_toArray, List.getElem_cons_zero, List.getElem_cons_succ, Act.put, List.setIfInBounds_toArray, List.set_cons_zero, List.set_cons_succ]
          refine wpAnyH_take (i := 15) (v := ?_) rfl (by kernel_rfl) (by kernel_rfl) (by kernel_rfl) (fun _ _ _ h => h) (Or.inl ⟨by rfl, ?_⟩) ⟨HLB1.out, HBB1.out⟩ ?_
          rotate_left
          · intro wS hSw
            go_simp
            try with_reducible rfl
          try simp only [List.getElem_toArray, List.getElem_cons_zero, List.getElem_cons_succ, Act.put, List.setIfInBounds_toArray, List.set_cons_zero, List.set_cons_succ]
          refine wpAnyH_done (by kernel_rfl) ?_ _

          have GO : Hid (Go.Sort.siftDown ltS hi F C (Go.Sort.swp dk Y X) = Go.Sort.siftDown ltS hi F lo d) := Lib.hid ((GOX.out hcQ).symm.trans HO.out)
          go_wp2
          obtain ⟨pS, hpS⟩ : ∃ x, x = dk[Y]! := ⟨_, rfl⟩
          obtain ⟨qS, hqS⟩ : ∃ x, x = dk[X]! := ⟨_, rfl⟩
          have hSS := HLB1.out.swap (i := Y) (j := X) (by have := HZ.out; omega) (by have := HZ.out; omega)
          rw [← hpS, ← hqS] at hSS
          have HSS := Lib.hid hSS
          have HTS := Lib.hid (below4 HBB1.out hg ((Y) * 2) ((Y) * 2 + 1) ((X) * 2) ((X) * 2 + 1) (.string qS.1) (.string qS.2) (.string pS.1) (.string pS.2))
          have l0S := HLB1.out.at0 (i := Y) (by have := HZ.out; omega) hpS
          have l1S := HLB1.out.at1 (i := Y) (by have := HZ.out; omega) hpS
          have l2S := HLB1.out.at0 (i := X) (by have := HZ.out; omega) hqS
          have l3S := HLB1.out.at1 (i := X) (by have := HZ.out; omega) hqS
          have f0S := HLB1.out.fr ((Y) * 2)
          have f1S := HLB1.out.fr ((Y) * 2 + 1)
          have f2S := HLB1.out.fr ((X) * 2)
          have f3S := HLB1.out.fr ((X) * 2 + 1)
          obtain ⟨v2S, m2S⟩ := HLB1.out.ex ((X) * 2) ((Y) * 2) (.string qS.1) (by have hjz : X < dk.size := (by have := HZ.out; omega); omega)
          obtain ⟨v3S, m3S⟩ := HLB1.out.ex2 ((X) * 2 + 1) ((Y) * 2) ((Y) * 2 + 1) (.string qS.1) (.string qS.2) (by have hjz : X < dk.size := (by have := HZ.out; omega); omega)
          clear hpS hqS hSS

          go_region
          all_goals (try go_wp2)
          go_roundw
          case rel => exact ⟨C, _, by first | rfl | go_num, by omega, Lib.hid (by rw [Go.Sort.size_swp]; exact HZ.out), Lib.hid (HSS.out.drewN 1), Lib.hid (below_drewN HTS.out 1), GO⟩
          case measure => first | (simp [Go.RowKit.intOf]; done) | (simp [Go.RowKit.intOf]; omega)

end Cib
