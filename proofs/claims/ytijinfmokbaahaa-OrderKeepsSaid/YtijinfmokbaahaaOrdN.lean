/- Order: the two partitions. Printed by genS.py. -/
import Derived.Test.YtijinfmokbaahaaOrdS
set_option linter.unusedVariables false
set_option linter.unusedSimpArgs false
set_option maxRecDepth 20000
namespace Cib
open Go Go.RowKit Go.Proofs
set_option maxHeartbeats 8000000 in
theorem ordPart (g n c a b p B : Nat) (d : Array Sn) (w : World) (h : Lies w g d) (hn : d.size = n) (hg : B ≤ g) (hap : a ≤ p) (hpb : p < b) (hb : b ≤ n) (hs : n ≤ 45) : Calls Try.prog 51 #[.slice (some ⟨g, 0, none⟩) n c, .int .i64 a, .int .i64 b, .int .i64 p, cmpV] w fun e w' =>
    ∃ (m : Nat) (t : Bool) (d' : Array Sn), e = .returned (.tuple #[.int .i64 m, .bool t]) ∧ Lies w' g d' ∧ Go.Sort.PermIn a b d d' ∧ Cutt ltS a b m d' ∧ Below B w w' := by
  have CS : Hid (CutI (fun q x => ltS x q) d[p]! a b d (a + 1) (b - 1) (Go.Sort.swp d a p)) := Lib.hid (CutI.start hap hpb (by omega))
  have HH := Lib.hid h
  have HB0 := Lib.hid (Below.refl B w)
  have haz : (a : Int) < (n : Int) := by omega
  have hpz : (p : Int) < (n : Int) := by omega
  have hwb : IntKind.i64.wrap ((b : Int) - 1) = (b : Int) - 1 := by rw [IntKind.wrap_i64]; omega
  obtain ⟨p0, hp0⟩ : ∃ x, x = d[a]! := ⟨_, rfl⟩
  obtain ⟨q0, hq0⟩ : ∃ x, x = d[p]! := ⟨_, rfl⟩
  have hS0 := HH.out.swap (i := a) (j := p) (by omega) (by omega)
  rw [← hp0, ← hq0] at hS0
  have HS0 := Lib.hid hS0
  have HT0 := Lib.hid (below4 HB0.out hg ((a) * 2) ((a) * 2 + 1) ((p) * 2) ((p) * 2 + 1) (.string q0.1) (.string q0.2) (.string p0.1) (.string p0.2))
  have l00 := HH.out.at0 (i := a) (by omega) hp0
  have l10 := HH.out.at1 (i := a) (by omega) hp0
  have l20 := HH.out.at0 (i := p) (by omega) hq0
  have l30 := HH.out.at1 (i := p) (by omega) hq0
  have f00 := HH.out.fr ((a) * 2)
  have f10 := HH.out.fr ((a) * 2 + 1)
  have f20 := HH.out.fr ((p) * 2)
  have f30 := HH.out.fr ((p) * 2 + 1)
  obtain ⟨v20, m20⟩ := HH.out.ex ((p) * 2) ((a) * 2) (.string q0.1) (by have hjz : p < d.size := (by omega); omega)
  obtain ⟨v30, m30⟩ := HH.out.ex2 ((p) * 2 + 1) ((a) * 2) ((a) * 2 + 1) (.string q0.1) (.string q0.2) (by have hjz : p < d.size := (by omega); omega)
  clear hp0 hq0 hS0

  have HN := Lib.hid hn
  clear h hn
  unfold cmpV
  go_enter Try.func51, Try.ntmps51
  go_wp2
  go_region
  all_goals (try go_wp2)
  have LS := Lib.hid (HS0.out.drewN 1)
  have BS := Lib.hid (below_drewN HT0.out 1)
  clear l00 l10 l20 l30 f00 f10 f20 f30 HS0 m20 m30 HT0
  have ZD1 : Hid ((Go.Sort.swp d a p).size = n) := Lib.hid (by rw [Go.Sort.size_swp]; exact HN.out)
  generalize hD1 : Go.Sort.swp d a p = D1 at *
  obtain ⟨J1, hJ1⟩ : ∃ J : Nat, J = b - 1 := ⟨_, rfl⟩
  rw [← hJ1] at CS
  have hbJ : (b : Int) - 1 = (J1 : Int) := by omega
  have HJ1 := Lib.hid hJ1
  try go_wp2
  simp only [hbJ]
  have hJb : J1 < b := by omega
  have haJ : a ≤ J1 := by omega
  clear hD1 hJ1 hbJ hwb
  go_loopw [12] (fun vi wr => ∃ i : Nat, vi = .int .i64 i ∧ a + 1 ≤ i ∧ Hid (CutI (fun q x => ltS x q) d[p]! a b d i J1 D1) ∧ Hid (Lies wr g D1) ∧ Hid (Below B w wr)) (fun vi _ => J1 + 1 - (Go.RowKit.intOf vi).toNat)
  case atStart => exact ⟨a + 1, by first | rfl | go_num, Nat.le_refl _, CS, LS, BS⟩
  case round =>
    obtain ⟨i1, rfl, c01, C1, L1, B1⟩ := hrel
    have c11 := C1.out.hai
    have c21 := C1.out.hjb
    have c31 := C1.out.hij
    by_cases hle1 : i1 ≤ J1
    · have hlez1 : (i1 : Int) ≤ (J1 : Int) := by omega
      have hin1 : (i1 : Int) < (n : Int) := by omega
      cases hcA : ltS D1[i1]! D1[a]! with
      | true =>
        have C21 := Lib.hid (C1.out.up hle1 (by rw [← C1.out.piv]; simp [hcA]))
        obtain ⟨xU1, hxU1⟩ : ∃ x, x = D1[i1]! := ⟨_, rfl⟩
        obtain ⟨yU1, hyU1⟩ : ∃ x, x = D1[a]! := ⟨_, rfl⟩
        rw [← hxU1, ← hyU1] at hcA
        have hiU1 : i1 < D1.size := by have := C1.out.hai; have := C1.out.hjb; have := ZD1.out; omega
        have hjU1 : a < D1.size := by have := C1.out.hai; have := C1.out.hjb; have := ZD1.out; omega
        have hvU1 : cfS xU1 yU1 < 0 := (cf_lt _ _).2 hcA
        have hdU1 : decide (cfS xU1 yU1 < 0) = true := decide_eq_true hvU1
        have HXU1 := Lib.hid (And.intro hxU1 hyU1)
        have HIU1 := Lib.hid (And.intro hiU1 hjU1)
        have HCU1 := Lib.hid hcA
        clear hxU1 hyU1 hiU1 hjU1 hcA
        go_wp2
        refine wp_region_held_drew (S := (fun wQq => Lies wQq g D1 ∧ Below B w wQq)) (by kernel_rfl) (⟨L1.out.drewN 1, below_drewN B1.out 1⟩) (fun _ => ?_)
        refine wpAnyH_take (i := 0) (v := ?_) rfl (by kernel_rfl) (by kernel_rfl) (by kernel_rfl) (fun _ _ _ h => h) (Or.inl ⟨by rfl, ?_⟩) (⟨L1.out.drewN 1, below_drewN B1.out 1⟩) ?_
        rotate_left
        · intro wS hSw
          go_simp
          try with_reducible rfl
        try simp only [List.getElem_toArray, List.getElem_cons_zero, List.getElem_cons_succ, Act.put, List.setIfInBounds_toArray, List.set_cons_zero, List.set_cons_succ]
        refine wpAnyH_take (i := 1) (v := ?_) rfl (by kernel_rfl) (by kernel_rfl) (by kernel_rfl) (fun _ _ _ h => h) (Or.inl ⟨by rfl, ?_⟩) (⟨L1.out.drewN 1, below_drewN B1.out 1⟩) ?_
        rotate_left
        · intro wS hSw
          go_simp
          try with_reducible rfl
        try simp only [List.getElem_toArray, List.getElem_cons_zero, List.getElem_cons_succ, Act.put, List.setIfInBounds_toArray, List.set_cons_zero, List.set_cons_succ]
        refine wpAnyH_take (i := 2) (v := ?_) rfl (by kernel_rfl) (by kernel_rfl) (by kernel_rfl) (fun _ _ _ h => h) (Or.inl ⟨by rfl, ?_⟩) (⟨L1.out.drewN 1, below_drewN B1.out 1⟩) ?_
        rotate_left
        · intro wS hSw
          go_simp
          try with_reducible rfl
        try simp only [List.getElem_toArray, List.getElem_cons_zero, List.getElem_cons_succ, Act.put, List.setIfInBounds_toArray, List.set_cons_zero, List.set_cons_succ]
        refine wpAnyH_take (i := 3) (v := ?_) rfl (by kernel_rfl) (by kernel_rfl) (by kernel_rfl) (fun _ _ _ h => h) (Or.inl ⟨by rfl, ?_⟩) (⟨L1.out.drewN 1, below_drewN B1.out 1⟩) ?_
        rotate_left
        · intro wS hSw
          go_simp
          try with_reducible rfl
        try simp only [List.getElem_toArray, List.getElem_cons_zero, List.getElem_cons_succ, Act.put, List.setIfInBounds_toArray, List.set_cons_zero, List.set_cons_succ]
        refine wpAnyH_take (i := 4) (v := ?_) rfl (by kernel_rfl) (by kernel_rfl) (by kernel_rfl) (fun _ _ _ h => h) (Or.inl ⟨by rfl, ?_⟩) (⟨L1.out.drewN 1, below_drewN B1.out 1⟩) ?_
        rotate_left
        · intro wS hSw
          go_simp
          try with_reducible rfl
        try simp only [List.getElem_toArray, List.getElem_cons_zero, List.getElem_cons_succ, Act.put, List.setIfInBounds_toArray, List.set_cons_zero, List.set_cons_succ]
        refine wpAnyH_take (i := 5) (v := ?_) rfl (by kernel_rfl) (by kernel_rfl) (by kernel_rfl) (fun _ _ _ h => h) (Or.inl ⟨by rfl, ?_⟩) (⟨L1.out.drewN 1, below_drewN B1.out 1⟩) ?_
        rotate_left
        · intro wS hSw
          go_simp
          try with_reducible rfl
        try simp only [List.getElem_toArray, List.getElem_cons_zero, List.getElem_cons_succ, Act.put, List.setIfInBounds_toArray, List.set_cons_zero, List.set_cons_succ]
        refine wpAnyH_take (i := 6) (v := ?_) rfl (by kernel_rfl) (by kernel_rfl) (by kernel_rfl) (fun _ _ _ h => h) (Or.inl ⟨by rfl, ?_⟩) (⟨L1.out.drewN 1, below_drewN B1.out 1⟩) ?_
        rotate_left
        · intro wS hSw
          go_simp
          try with_reducible rfl
        try simp only [List.getElem_toArray, List.getElem_cons_zero, List.getElem_cons_succ, Act.put, List.setIfInBounds_toArray, List.set_cons_zero, List.set_cons_succ]
        refine wpAnyH_take (i := 7) (v := ?_) rfl (by kernel_rfl) (by kernel_rfl) (by kernel_rfl) (fun _ _ _ h => h) (Or.inl ⟨by rfl, ?_⟩) (⟨L1.out.drewN 1, below_drewN B1.out 1⟩) ?_
        rotate_left
        · intro wS hSw
          go_simp
          try with_reducible rfl
        try simp only [List.getElem_toArray, List.getElem_cons_zero, List.getElem_cons_succ, Act.put, List.setIfInBounds_toArray, List.set_cons_zero, List.set_cons_succ]
        refine wpAnyH_take (i := 9) (v := ?_) rfl (by kernel_rfl) (by kernel_rfl) (by kernel_rfl) (fun _ _ _ h => h) (Or.inl ⟨by rfl, ?_⟩) (⟨L1.out.drewN 1, below_drewN B1.out 1⟩) ?_
        rotate_left
        · intro wS hSw
          go_simp
          try with_reducible rfl
        try simp only [List.getElem_toArray, List.getElem_cons_zero, List.getElem_cons_succ, Act.put, List.setIfInBounds_toArray, List.set_cons_zero, List.set_cons_succ]
        refine wpAnyH_take (i := 10) (v := ?_) rfl (by kernel_rfl) (by kernel_rfl) (by kernel_rfl) (fun _ _ _ h => h) (Or.inl ⟨by rfl, ?_⟩) (⟨L1.out.drewN 1, below_drewN B1.out 1⟩) ?_
        rotate_left
        · intro wS hSw
          go_simp
          try with_reducible rfl
        try simp only [List.getElem_toArray, List.getElem_cons_zero, List.getElem_cons_succ, Act.put, List.setIfInBounds_toArray, List.set_cons_zero, List.set_cons_succ]
        refine wpAnyH_take (i := 11) (v := ?_) rfl (by kernel_rfl) (by kernel_rfl) (by kernel_rfl) (fun _ _ _ h => h) (Or.inl ⟨by rfl, ?_⟩) (⟨L1.out.drewN 1, below_drewN B1.out 1⟩) ?_
        rotate_left
        · intro wS hSw
          go_simp
          try with_reducible rfl
        try simp only [List.getElem_toArray, List.getElem_cons_zero, List.getElem_cons_succ, Act.put, List.setIfInBounds_toArray, List.set_cons_zero, List.set_cons_succ]
        refine wpAnyH_take (i := 8) (v := ?_) rfl (by kernel_rfl) (by kernel_rfl) (by kernel_rfl) (fun _ _ _ h => h) (Or.inl ⟨by rfl, ?_⟩) (⟨L1.out.drewN 1, below_drewN B1.out 1⟩) ?_
        rotate_left
        · intro wS hSw
          have hcv := hSw.1.at0 HIU1.out.1 HXU1.out.1
          have hcv2 := hSw.1.at1 HIU1.out.1 HXU1.out.1
          go_simp
          try with_reducible rfl
        try simp only [List.getElem_toArray, List.getElem_cons_zero, List.getElem_cons_succ, Act.put, List.setIfInBounds_toArray, List.set_cons_zero, List.set_cons_succ]
        refine wpAnyH_take (i := 12) (v := ?_) rfl (by kernel_rfl) (by kernel_rfl) (by kernel_rfl) (fun _ _ _ h => h) (Or.inl ⟨by rfl, ?_⟩) (⟨L1.out.drewN 1, below_drewN B1.out 1⟩) ?_
        rotate_left
        · intro wS hSw
          have hcv := hSw.1.at0 HIU1.out.2 HXU1.out.2
          have hcv2 := hSw.1.at1 HIU1.out.2 HXU1.out.2
          go_simp
          try with_reducible rfl
        try simp only [List.getElem_toArray, List.getElem_cons_zero, List.getElem_cons_succ, Act.put, List.setIfInBounds_toArray, List.set_cons_zero, List.set_cons_succ]
        refine wpAnyH_ready (rs := [13]) (by kernel_rfl) (by simp) ?_
        refine AllReadyH.cons rfl (fun K hK => ?_) AllReadyH.nil
        go_simp
        refine (ordCmp xU1 yU1 _).mono ?_
        rintro e wU1 ⟨rfl, hbU1⟩
        have HLU1 := Lib.hid ((L1.out.drewN 1).below hbU1 L1.out.lt)
        have HBU1 := Lib.hid ((below_drewN B1.out 1).trans (hbU1.mono (Nat.le_trans hg (Nat.le_of_lt L1.out.lt))))
        clear hbU1
        refine hK.out _ _ ⟨HLU1.out, HBU1.out⟩ (fun _ => ?_)
        clear hK K
        try simp only [List.getElem_toArray, List.getElem_cons_zero, List.getElem_cons_succ, Act.put, List.setIfInBounds_toArray, List.set_cons_zero, List.set_cons_succ]
        refine wpAnyH_take (i := 14) (v := ?_) rfl (by kernel_rfl) (by kernel_rfl) (by kernel_rfl) (fun _ _ _ h => h) (Or.inl ⟨by rfl, ?_⟩) ⟨HLU1.out, HBU1.out⟩ ?_
        rotate_left
        · intro wS hSw
          go_simp
          try with_reducible rfl
        try simp only [List.getElem_toArray, List.getElem_cons_zero, List.getElem_cons_succ, Act.put, List.setIfInBounds_toArray, List.set_cons_zero, List.set_cons_succ]
        refine wpAnyH_take (i := 15) (v := ?_) rfl (by kernel_rfl) (by kernel_rfl) (by kernel_rfl) (fun _ _ _ h => h) (Or.inl ⟨by rfl, ?_⟩) ⟨HLU1.out, HBU1.out⟩ ?_
        rotate_left
        · intro wS hSw
          go_simp
          try with_reducible rfl
        try simp only [List.getElem_toArray, List.getElem_cons_zero, List.getElem_cons_succ, Act.put, List.setIfInBounds_toArray, List.set_cons_zero, List.set_cons_succ]
        refine wpAnyH_done (by kernel_rfl) ?_ _

        go_wp2
        go_roundw
        case rel => exact ⟨i1 + 1, by go_num, by omega, C21, HLU1, HBU1⟩
        case measure => first | (simp [Go.RowKit.intOf]; done) | (simp [Go.RowKit.intOf]; omega)
      | false =>
        have HN1 := Lib.hid (show (fun q x => ltS x q) d[p]! D1[i1]! = false by rw [← C1.out.piv]; simp [hcA])
        obtain ⟨xU1, hxU1⟩ : ∃ x, x = D1[i1]! := ⟨_, rfl⟩
        obtain ⟨yU1, hyU1⟩ : ∃ x, x = D1[a]! := ⟨_, rfl⟩
        rw [← hxU1, ← hyU1] at hcA
        have hiU1 : i1 < D1.size := by have := C1.out.hai; have := C1.out.hjb; have := ZD1.out; omega
        have hjU1 : a < D1.size := by have := C1.out.hai; have := C1.out.hjb; have := ZD1.out; omega
        have hvU1 : ¬ cfS xU1 yU1 < 0 := (cf_lt_no _ _).2 hcA
        have hdU1 : decide (cfS xU1 yU1 < 0) = false := decide_eq_false hvU1
        have HXU1 := Lib.hid (And.intro hxU1 hyU1)
        have HIU1 := Lib.hid (And.intro hiU1 hjU1)
        have HCU1 := Lib.hid hcA
        clear hxU1 hyU1 hiU1 hjU1 hcA
        go_wp2
        refine wp_region_held_drew (S := (fun wQq => Lies wQq g D1 ∧ Below B w wQq)) (by kernel_rfl) (⟨L1.out.drewN 1, below_drewN B1.out 1⟩) (fun _ => ?_)
        refine wpAnyH_take (i := 0) (v := ?_) rfl (by kernel_rfl) (by kernel_rfl) (by kernel_rfl) (fun _ _ _ h => h) (Or.inl ⟨by rfl, ?_⟩) (⟨L1.out.drewN 1, below_drewN B1.out 1⟩) ?_
        rotate_left
        · intro wS hSw
          go_simp
          try with_reducible rfl
        try simp only [List.getElem_toArray, List.getElem_cons_zero, List.getElem_cons_succ, Act.put, List.setIfInBounds_toArray, List.set_cons_zero, List.set_cons_succ]
        refine wpAnyH_take (i := 1) (v := ?_) rfl (by kernel_rfl) (by kernel_rfl) (by kernel_rfl) (fun _ _ _ h => h) (Or.inl ⟨by rfl, ?_⟩) (⟨L1.out.drewN 1, below_drewN B1.out 1⟩) ?_
        rotate_left
        · intro wS hSw
          go_simp
          try with_reducible rfl
        try simp only [List.getElem_toArray, List.getElem_cons_zero, List.getElem_cons_succ, Act.put, List.setIfInBounds_toArray, List.set_cons_zero, List.set_cons_succ]
        refine wpAnyH_take (i := 2) (v := ?_) rfl (by kernel_rfl) (by kernel_rfl) (by kernel_rfl) (fun _ _ _ h => h) (Or.inl ⟨by rfl, ?_⟩) (⟨L1.out.drewN 1, below_drewN B1.out 1⟩) ?_
        rotate_left
        · intro wS hSw
          go_simp
          try with_reducible rfl
        try simp only [List.getElem_toArray, List.getElem_cons_zero, List.getElem_cons_succ, Act.put, List.setIfInBounds_toArray, List.set_cons_zero, List.set_cons_succ]
        refine wpAnyH_take (i := 3) (v := ?_) rfl (by kernel_rfl) (by kernel_rfl) (by kernel_rfl) (fun _ _ _ h => h) (Or.inl ⟨by rfl, ?_⟩) (⟨L1.out.drewN 1, below_drewN B1.out 1⟩) ?_
        rotate_left
        · intro wS hSw
          go_simp
          try with_reducible rfl
        try simp only [List.getElem_toArray, List.getElem_cons_zero, List.getElem_cons_succ, Act.put, List.setIfInBounds_toArray, List.set_cons_zero, List.set_cons_succ]
        refine wpAnyH_take (i := 4) (v := ?_) rfl (by kernel_rfl) (by kernel_rfl) (by kernel_rfl) (fun _ _ _ h => h) (Or.inl ⟨by rfl, ?_⟩) (⟨L1.out.drewN 1, below_drewN B1.out 1⟩) ?_
        rotate_left
        · intro wS hSw
          go_simp
          try with_reducible rfl
        try simp only [List.getElem_toArray, List.getElem_cons_zero, List.getElem_cons_succ, Act.put, List.setIfInBounds_toArray, List.set_cons_zero, List.set_cons_succ]
        refine wpAnyH_take (i := 5) (v := ?_) rfl (by kernel_rfl) (by kernel_rfl) (by kernel_rfl) (fun _ _ _ h => h) (Or.inl ⟨by rfl, ?_⟩) (⟨L1.out.drewN 1, below_drewN B1.out 1⟩) ?_
        rotate_left
        · intro wS hSw
          go_simp
          try with_reducible rfl
        try simp only [List.getElem_toArray, List.getElem_cons_zero, List.getElem_cons_succ, Act.put, List.setIfInBounds_toArray, List.set_cons_zero, List.set_cons_succ]
        refine wpAnyH_take (i := 6) (v := ?_) rfl (by kernel_rfl) (by kernel_rfl) (by kernel_rfl) (fun _ _ _ h => h) (Or.inl ⟨by rfl, ?_⟩) (⟨L1.out.drewN 1, below_drewN B1.out 1⟩) ?_
        rotate_left
        · intro wS hSw
          go_simp
          try with_reducible rfl
        try simp only [List.getElem_toArray, List.getElem_cons_zero, List.getElem_cons_succ, Act.put, List.setIfInBounds_toArray, List.set_cons_zero, List.set_cons_succ]
        refine wpAnyH_take (i := 7) (v := ?_) rfl (by kernel_rfl) (by kernel_rfl) (by kernel_rfl) (fun _ _ _ h => h) (Or.inl ⟨by rfl, ?_⟩) (⟨L1.out.drewN 1, below_drewN B1.out 1⟩) ?_
        rotate_left
        · intro wS hSw
          go_simp
          try with_reducible rfl
        try simp only [List.getElem_toArray, List.getElem_cons_zero, List.getElem_cons_succ, Act.put, List.setIfInBounds_toArray, List.set_cons_zero, List.set_cons_succ]
        refine wpAnyH_take (i := 9) (v := ?_) rfl (by kernel_rfl) (by kernel_rfl) (by kernel_rfl) (fun _ _ _ h => h) (Or.inl ⟨by rfl, ?_⟩) (⟨L1.out.drewN 1, below_drewN B1.out 1⟩) ?_
        rotate_left
        · intro wS hSw
          go_simp
          try with_reducible rfl
        try simp only [List.getElem_toArray, List.getElem_cons_zero, List.getElem_cons_succ, Act.put, List.setIfInBounds_toArray, List.set_cons_zero, List.set_cons_succ]
        refine wpAnyH_take (i := 10) (v := ?_) rfl (by kernel_rfl) (by kernel_rfl) (by kernel_rfl) (fun _ _ _ h => h) (Or.inl ⟨by rfl, ?_⟩) (⟨L1.out.drewN 1, below_drewN B1.out 1⟩) ?_
        rotate_left
        · intro wS hSw
          go_simp
          try with_reducible rfl
        try simp only [List.getElem_toArray, List.getElem_cons_zero, List.getElem_cons_succ, Act.put, List.setIfInBounds_toArray, List.set_cons_zero, List.set_cons_succ]
        refine wpAnyH_take (i := 11) (v := ?_) rfl (by kernel_rfl) (by kernel_rfl) (by kernel_rfl) (fun _ _ _ h => h) (Or.inl ⟨by rfl, ?_⟩) (⟨L1.out.drewN 1, below_drewN B1.out 1⟩) ?_
        rotate_left
        · intro wS hSw
          go_simp
          try with_reducible rfl
        try simp only [List.getElem_toArray, List.getElem_cons_zero, List.getElem_cons_succ, Act.put, List.setIfInBounds_toArray, List.set_cons_zero, List.set_cons_succ]
        refine wpAnyH_take (i := 8) (v := ?_) rfl (by kernel_rfl) (by kernel_rfl) (by kernel_rfl) (fun _ _ _ h => h) (Or.inl ⟨by rfl, ?_⟩) (⟨L1.out.drewN 1, below_drewN B1.out 1⟩) ?_
        rotate_left
        · intro wS hSw
          have hcv := hSw.1.at0 HIU1.out.1 HXU1.out.1
          have hcv2 := hSw.1.at1 HIU1.out.1 HXU1.out.1
          go_simp
          try with_reducible rfl
        try simp only [List.getElem_toArray, List.getElem_cons_zero, List.getElem_cons_succ, Act.put, List.setIfInBounds_toArray, List.set_cons_zero, List.set_cons_succ]
        refine wpAnyH_take (i := 12) (v := ?_) rfl (by kernel_rfl) (by kernel_rfl) (by kernel_rfl) (fun _ _ _ h => h) (Or.inl ⟨by rfl, ?_⟩) (⟨L1.out.drewN 1, below_drewN B1.out 1⟩) ?_
        rotate_left
        · intro wS hSw
          have hcv := hSw.1.at0 HIU1.out.2 HXU1.out.2
          have hcv2 := hSw.1.at1 HIU1.out.2 HXU1.out.2
          go_simp
          try with_reducible rfl
        try simp only [List.getElem_toArray, List.getElem_cons_zero, List.getElem_cons_succ, Act.put, List.setIfInBounds_toArray, List.set_cons_zero, List.set_cons_succ]
        refine wpAnyH_ready (rs := [13]) (by kernel_rfl) (by simp) ?_
        refine AllReadyH.cons rfl (fun K hK => ?_) AllReadyH.nil
        go_simp
        refine (ordCmp xU1 yU1 _).mono ?_
        rintro e wU1 ⟨rfl, hbU1⟩
        have HLU1 := Lib.hid ((L1.out.drewN 1).below hbU1 L1.out.lt)
        have HBU1 := Lib.hid ((below_drewN B1.out 1).trans (hbU1.mono (Nat.le_trans hg (Nat.le_of_lt L1.out.lt))))
        clear hbU1
        refine hK.out _ _ ⟨HLU1.out, HBU1.out⟩ (fun _ => ?_)
        clear hK K
        try simp only [List.getElem_toArray, List.getElem_cons_zero, List.getElem_cons_succ, Act.put, List.setIfInBounds_toArray, List.set_cons_zero, List.set_cons_succ]
        refine wpAnyH_take (i := 14) (v := ?_) rfl (by kernel_rfl) (by kernel_rfl) (by kernel_rfl) (fun _ _ _ h => h) (Or.inl ⟨by rfl, ?_⟩) ⟨HLU1.out, HBU1.out⟩ ?_
        rotate_left
        · intro wS hSw
          go_simp
          try with_reducible rfl
        try simp only [List.getElem_toArray, List.getElem_cons_zero, List.getElem_cons_succ, Act.put, List.setIfInBounds_toArray, List.set_cons_zero, List.set_cons_succ]
        refine wpAnyH_take (i := 15) (v := ?_) rfl (by kernel_rfl) (by kernel_rfl) (by kernel_rfl) (fun _ _ _ h => h) (Or.inl ⟨by rfl, ?_⟩) ⟨HLU1.out, HBU1.out⟩ ?_
        rotate_left
        · intro wS hSw
          go_simp
          try with_reducible rfl
        try simp only [List.getElem_toArray, List.getElem_cons_zero, List.getElem_cons_succ, Act.put, List.setIfInBounds_toArray, List.set_cons_zero, List.set_cons_succ]
        refine wpAnyH_done (by kernel_rfl) ?_ _

        have LU1 := HLU1
        have BU1 := HBU1
        clear HLU1 HBU1
        go_wp2
        go_loopw [13] (fun vj wr => ∃ q : Nat, vj = .int .i64 q ∧ q ≤ J1 ∧ Hid (CutI (fun q x => ltS x q) d[p]! a b d i1 q D1) ∧ Hid (Lies wr g D1) ∧ Hid (Below B w wr)) (fun vj _ => (Go.RowKit.intOf vj).toNat)
        case atStart => exact ⟨J1, by first | rfl | go_num, Nat.le_refl _, C1, LU1, BU1⟩
        case round =>
          clear LU1 BU1
          obtain ⟨q1, rfl, e01, E1, M1, N1⟩ := hrel
          have e11 := E1.out.hai
          have e21 := E1.out.hjb
          have e31 := E1.out.hij
          by_cases hlq1 : i1 ≤ q1
          · have hlqz1 : (i1 : Int) ≤ (q1 : Int) := by omega
            have hqn1 : (q1 : Int) < (n : Int) := by omega
            have hwq1 : IntKind.i64.wrap ((q1 : Int) - 1) = (q1 : Int) - 1 := by rw [IntKind.wrap_i64]; omega
            cases hcA : ltS D1[q1]! D1[a]! with
            | false =>
              have E21 := Lib.hid (E1.out.down hlq1 (by rw [← E1.out.piv]; simp [hcA]))
              obtain ⟨xD1, hxD1⟩ : ∃ x, x = D1[q1]! := ⟨_, rfl⟩
              obtain ⟨yD1, hyD1⟩ : ∃ x, x = D1[a]! := ⟨_, rfl⟩
              rw [← hxD1, ← hyD1] at hcA
              have hiD1 : q1 < D1.size := by have := E1.out.hai; have := E1.out.hjb; have := ZD1.out; omega
              have hjD1 : a < D1.size := by have := E1.out.hai; have := E1.out.hjb; have := ZD1.out; omega
              have hvD1 : ¬ cfS xD1 yD1 < 0 := (cf_lt_no _ _).2 hcA
              have hdD1 : decide (cfS xD1 yD1 < 0) = false := decide_eq_false hvD1
              have HXD1 := Lib.hid (And.intro hxD1 hyD1)
              have HID1 := Lib.hid (And.intro hiD1 hjD1)
              have HCD1 := Lib.hid hcA
              clear hxD1 hyD1 hiD1 hjD1 hcA
              go_wp2
              refine wp_region_held_drew (S := (fun wQq => Lies wQq g D1 ∧ Below B w wQq)) (by kernel_rfl) (⟨M1.out.drewN 1, below_drewN N1.out 1⟩) (fun _ => ?_)
              refine wpAnyH_take (i := 0) (v := ?_) rfl (by kernel_rfl) (by kernel_rfl) (by kernel_rfl) (fun _ _ _ h => h) (Or.inl ⟨by rfl, ?_⟩) (⟨M1.out.drewN 1, below_drewN N1.out 1⟩) ?_
              rotate_left
              · intro wS hSw
                go_simp
                try with_reducible rfl
              try simp only [List.getElem_toArray, List.getElem_cons_zero, List.getElem_cons_succ, Act.put, List.setIfInBounds_toArray, List.set_cons_zero, List.set_cons_succ]
              refine wpAnyH_take (i := 1) (v := ?_) rfl (by kernel_rfl) (by kernel_rfl) (by kernel_rfl) (fun _ _ _ h => h) (Or.inl ⟨by rfl, ?_⟩) (⟨M1.out.drewN 1, below_drewN N1.out 1⟩) ?_
              rotate_left
              · intro wS hSw
                go_simp
                try with_reducible rfl
              try simp only [List.getElem_toArray, List.getElem_cons_zero, List.getElem_cons_succ, Act.put, List.setIfInBounds_toArray, List.set_cons_zero, List.set_cons_succ]
              refine wpAnyH_take (i := 2) (v := ?_) rfl (by kernel_rfl) (by kernel_rfl) (by kernel_rfl) (fun _ _ _ h => h) (Or.inl ⟨by rfl, ?_⟩) (⟨M1.out.drewN 1, below_drewN N1.out 1⟩) ?_
              rotate_left
              · intro wS hSw
                go_simp
                try with_reducible rfl
              try simp only [List.getElem_toArray, List.getElem_cons_zero, List.getElem_cons_succ, Act.put, List.setIfInBounds_toArray, List.set_cons_zero, List.set_cons_succ]
              refine wpAnyH_take (i := 3) (v := ?_) rfl (by kernel_rfl) (by kernel_rfl) (by kernel_rfl) (fun _ _ _ h => h) (Or.inl ⟨by rfl, ?_⟩) (⟨M1.out.drewN 1, below_drewN N1.out 1⟩) ?_
              rotate_left
              · intro wS hSw
                go_simp
                try with_reducible rfl
              try simp only [List.getElem_toArray, List.getElem_cons_zero, List.getElem_cons_succ, Act.put, List.setIfInBounds_toArray, List.set_cons_zero, List.set_cons_succ]
              refine wpAnyH_take (i := 4) (v := ?_) rfl (by kernel_rfl) (by kernel_rfl) (by kernel_rfl) (fun _ _ _ h => h) (Or.inl ⟨by rfl, ?_⟩) (⟨M1.out.drewN 1, below_drewN N1.out 1⟩) ?_
              rotate_left
              · intro wS hSw
                go_simp
                try with_reducible rfl
              try simp only [List.getElem_toArray, List.getElem_cons_zero, List.getElem_cons_succ, Act.put, List.setIfInBounds_toArray, List.set_cons_zero, List.set_cons_succ]
              refine wpAnyH_take (i := 5) (v := ?_) rfl (by kernel_rfl) (by kernel_rfl) (by kernel_rfl) (fun _ _ _ h => h) (Or.inl ⟨by rfl, ?_⟩) (⟨M1.out.drewN 1, below_drewN N1.out 1⟩) ?_
              rotate_left
              · intro wS hSw
                go_simp
                try with_reducible rfl
              try simp only [List.getElem_toArray, List.getElem_cons_zero, List.getElem_cons_succ, Act.put, List.setIfInBounds_toArray, List.set_cons_zero, List.set_cons_succ]
              refine wpAnyH_take (i := 6) (v := ?_) rfl (by kernel_rfl) (by kernel_rfl) (by kernel_rfl) (fun _ _ _ h => h) (Or.inl ⟨by rfl, ?_⟩) (⟨M1.out.drewN 1, below_drewN N1.out 1⟩) ?_
              rotate_left
              · intro wS hSw
                go_simp
                try with_reducible rfl
              try simp only [List.getElem_toArray, List.getElem_cons_zero, List.getElem_cons_succ, Act.put, List.setIfInBounds_toArray, List.set_cons_zero, List.set_cons_succ]
              refine wpAnyH_take (i := 7) (v := ?_) rfl (by kernel_rfl) (by kernel_rfl) (by kernel_rfl) (fun _ _ _ h => h) (Or.inl ⟨by rfl, ?_⟩) (⟨M1.out.drewN 1, below_drewN N1.out 1⟩) ?_
              rotate_left
              · intro wS hSw
                go_simp
                try with_reducible rfl
              try simp only [List.getElem_toArray, List.getElem_cons_zero, List.getElem_cons_succ, Act.put, List.setIfInBounds_toArray, List.set_cons_zero, List.set_cons_succ]
              refine wpAnyH_take (i := 9) (v := ?_) rfl (by kernel_rfl) (by kernel_rfl) (by kernel_rfl) (fun _ _ _ h => h) (Or.inl ⟨by rfl, ?_⟩) (⟨M1.out.drewN 1, below_drewN N1.out 1⟩) ?_
              rotate_left
              · intro wS hSw
                go_simp
                try with_reducible rfl
              try simp only [List.getElem_toArray, List.getElem_cons_zero, List.getElem_cons_succ, Act.put, List.setIfInBounds_toArray, List.set_cons_zero, List.set_cons_succ]
              refine wpAnyH_take (i := 10) (v := ?_) rfl (by kernel_rfl) (by kernel_rfl) (by kernel_rfl) (fun _ _ _ h => h) (Or.inl ⟨by rfl, ?_⟩) (⟨M1.out.drewN 1, below_drewN N1.out 1⟩) ?_
              rotate_left
              · intro wS hSw
                go_simp
                try with_reducible rfl
              try simp only [List.getElem_toArray, List.getElem_cons_zero, List.getElem_cons_succ, Act.put, List.setIfInBounds_toArray, List.set_cons_zero, List.set_cons_succ]
              refine wpAnyH_take (i := 11) (v := ?_) rfl (by kernel_rfl) (by kernel_rfl) (by kernel_rfl) (fun _ _ _ h => h) (Or.inl ⟨by rfl, ?_⟩) (⟨M1.out.drewN 1, below_drewN N1.out 1⟩) ?_
              rotate_left
              · intro wS hSw
                go_simp
                try with_reducible rfl
              try simp only [List.getElem_toArray, List.getElem_cons_zero, List.getElem_cons_succ, Act.put, List.setIfInBounds_toArray, List.set_cons_zero, List.set_cons_succ]
              refine wpAnyH_take (i := 8) (v := ?_) rfl (by kernel_rfl) (by kernel_rfl) (by kernel_rfl) (fun _ _ _ h => h) (Or.inl ⟨by rfl, ?_⟩) (⟨M1.out.drewN 1, below_drewN N1.out 1⟩) ?_
              rotate_left
              · intro wS hSw
                have hcv := hSw.1.at0 HID1.out.1 HXD1.out.1
                have hcv2 := hSw.1.at1 HID1.out.1 HXD1.out.1
                go_simp
                try with_reducible rfl
              try simp only [List.getElem_toArray, List.getElem_cons_zero, List.getElem_cons_succ, Act.put, List.setIfInBounds_toArray, List.set_cons_zero, List.set_cons_succ]
              refine wpAnyH_take (i := 12) (v := ?_) rfl (by kernel_rfl) (by kernel_rfl) (by kernel_rfl) (fun _ _ _ h => h) (Or.inl ⟨by rfl, ?_⟩) (⟨M1.out.drewN 1, below_drewN N1.out 1⟩) ?_
              rotate_left
              · intro wS hSw
                have hcv := hSw.1.at0 HID1.out.2 HXD1.out.2
                have hcv2 := hSw.1.at1 HID1.out.2 HXD1.out.2
                go_simp
                try with_reducible rfl
              try simp only [List.getElem_toArray, List.getElem_cons_zero, List.getElem_cons_succ, Act.put, List.setIfInBounds_toArray, List.set_cons_zero, List.set_cons_succ]
              refine wpAnyH_ready (rs := [13]) (by kernel_rfl) (by simp) ?_
              refine AllReadyH.cons rfl (fun K hK => ?_) AllReadyH.nil
              go_simp
              refine (ordCmp xD1 yD1 _).mono ?_
              rintro e wD1 ⟨rfl, hbD1⟩
              have HLD1 := Lib.hid ((M1.out.drewN 1).below hbD1 M1.out.lt)
              have HBD1 := Lib.hid ((below_drewN N1.out 1).trans (hbD1.mono (Nat.le_trans hg (Nat.le_of_lt M1.out.lt))))
              clear hbD1
              refine hK.out _ _ ⟨HLD1.out, HBD1.out⟩ (fun _ => ?_)
              clear hK K
              try simp only [List.getElem_toArray, List.getElem_cons_zero, List.getElem_cons_succ, Act.put, List.setIfInBounds_toArray, List.set_cons_zero, List.set_cons_succ]
              refine wpAnyH_take (i := 14) (v := ?_) rfl (by kernel_rfl) (by kernel_rfl) (by kernel_rfl) (fun _ _ _ h => h) (Or.inl ⟨by rfl, ?_⟩) ⟨HLD1.out, HBD1.out⟩ ?_
              rotate_left
              · intro wS hSw
                go_simp
                try with_reducible rfl
              try simp only [List.getElem_toArray, List.getElem_cons_zero, List.getElem_cons_succ, Act.put, List.setIfInBounds_toArray, List.set_cons_zero, List.set_cons_succ]
              refine wpAnyH_take (i := 15) (v := ?_) rfl (by kernel_rfl) (by kernel_rfl) (by kernel_rfl) (fun _ _ _ h => h) (Or.inl ⟨by rfl, ?_⟩) ⟨HLD1.out, HBD1.out⟩ ?_
              rotate_left
              · intro wS hSw
                go_simp
                try with_reducible rfl
              try simp only [List.getElem_toArray, List.getElem_cons_zero, List.getElem_cons_succ, Act.put, List.setIfInBounds_toArray, List.set_cons_zero, List.set_cons_succ]
              refine wpAnyH_take (i := 16) (v := ?_) rfl (by kernel_rfl) (by kernel_rfl) (by kernel_rfl) (fun _ _ _ h => h) (Or.inl ⟨by rfl, ?_⟩) ⟨HLD1.out, HBD1.out⟩ ?_
              rotate_left
              · intro wS hSw
                go_simp
                try with_reducible rfl
              try simp only [List.getElem_toArray, List.getElem_cons_zero, List.getElem_cons_succ, Act.put, List.setIfInBounds_toArray, List.set_cons_zero, List.set_cons_succ]
              refine wpAnyH_done (by kernel_rfl) ?_ _

              go_wp2
              go_roundw
              case rel => exact ⟨q1 - 1, by go_num, by omega, E21, HLD1, HBD1⟩
              case measure => first | (simp [Go.RowKit.intOf]; done) | (simp [Go.RowKit.intOf]; omega)
            | true =>
              have HV1 := Lib.hid (show (fun q x => ltS x q) d[p]! D1[q1]! = true by rw [← E1.out.piv]; simp [hcA])
              obtain ⟨xD1, hxD1⟩ : ∃ x, x = D1[q1]! := ⟨_, rfl⟩
              obtain ⟨yD1, hyD1⟩ : ∃ x, x = D1[a]! := ⟨_, rfl⟩
              rw [← hxD1, ← hyD1] at hcA
              have hiD1 : q1 < D1.size := by have := E1.out.hai; have := E1.out.hjb; have := ZD1.out; omega
              have hjD1 : a < D1.size := by have := E1.out.hai; have := E1.out.hjb; have := ZD1.out; omega
              have hvD1 : cfS xD1 yD1 < 0 := (cf_lt _ _).2 hcA
              have hdD1 : decide (cfS xD1 yD1 < 0) = true := decide_eq_true hvD1
              have HXD1 := Lib.hid (And.intro hxD1 hyD1)
              have HID1 := Lib.hid (And.intro hiD1 hjD1)
              have HCD1 := Lib.hid hcA
              clear hxD1 hyD1 hiD1 hjD1 hcA
              go_wp2
              refine wp_region_held_drew (S := (fun wQq => Lies wQq g D1 ∧ Below B w wQq)) (by kernel_rfl) (⟨M1.out.drewN 1, below_drewN N1.out 1⟩) (fun _ => ?_)
              refine wpAnyH_take (i := 0) (v := ?_) rfl (by kernel_rfl) (by kernel_rfl) (by kernel_rfl) (fun _ _ _ h => h) (Or.inl ⟨by rfl, ?_⟩) (⟨M1.out.drewN 1, below_drewN N1.out 1⟩) ?_
              rotate_left
              · intro wS hSw
                go_simp
                try with_reducible rfl
              try simp only [List.getElem_toArray, List.getElem_cons_zero, List.getElem_cons_succ, Act.put, List.setIfInBounds_toArray, List.set_cons_zero, List.set_cons_succ]
              refine wpAnyH_take (i := 1) (v := ?_) rfl (by kernel_rfl) (by kernel_rfl) (by kernel_rfl) (fun _ _ _ h => h) (Or.inl ⟨by rfl, ?_⟩) (⟨M1.out.drewN 1, below_drewN N1.out 1⟩) ?_
              rotate_left
              · intro wS hSw
                go_simp
                try with_reducible rfl
              try simp only [List.getElem_toArray, List.getElem_cons_zero, List.getElem_cons_succ, Act.put, List.setIfInBounds_toArray, List.set_cons_zero, List.set_cons_succ]
              refine wpAnyH_take (i := 2) (v := ?_) rfl (by kernel_rfl) (by kernel_rfl) (by kernel_rfl) (fun _ _ _ h => h) (Or.inl ⟨by rfl, ?_⟩) (⟨M1.out.drewN 1, below_drewN N1.out 1⟩) ?_
              rotate_left
              · intro wS hSw
                go_simp
                try with_reducible rfl
              try simp only [List.getElem_toArray, List.getElem_cons_zero, List.getElem_cons_succ, Act.put, List.setIfInBounds_toArray, List.set_cons_zero, List.set_cons_succ]
              refine wpAnyH_take (i := 3) (v := ?_) rfl (by kernel_rfl) (by kernel_rfl) (by kernel_rfl) (fun _ _ _ h => h) (Or.inl ⟨by rfl, ?_⟩) (⟨M1.out.drewN 1, below_drewN N1.out 1⟩) ?_
              rotate_left
              · intro wS hSw
                go_simp
                try with_reducible rfl
              try simp only [List.getElem_toArray, List.getElem_cons_zero, List.getElem_cons_succ, Act.put, List.setIfInBounds_toArray, List.set_cons_zero, List.set_cons_succ]
              refine wpAnyH_take (i := 4) (v := ?_) rfl (by kernel_rfl) (by kernel_rfl) (by kernel_rfl) (fun _ _ _ h => h) (Or.inl ⟨by rfl, ?_⟩) (⟨M1.out.drewN 1, below_drewN N1.out 1⟩) ?_
              rotate_left
              · intro wS hSw
                go_simp
                try with_reducible rfl
              try simp only [List.getElem_toArray, List.getElem_cons_zero, List.getElem_cons_succ, Act.put, List.setIfInBounds_toArray, List.set_cons_zero, List.set_cons_succ]
              refine wpAnyH_take (i := 5) (v := ?_) rfl (by kernel_rfl) (by kernel_rfl) (by kernel_rfl) (fun _ _ _ h => h) (Or.inl ⟨by rfl, ?_⟩) (⟨M1.out.drewN 1, below_drewN N1.out 1⟩) ?_
              rotate_left
              · intro wS hSw
                go_simp
                try with_reducible rfl
              try simp only [List.getElem_toArray, List.getElem_cons_zero, List.getElem_cons_succ, Act.put, List.setIfInBounds_toArray, List.set_cons_zero, List.set_cons_succ]
              refine wpAnyH_take (i := 6) (v := ?_) rfl (by kernel_rfl) (by kernel_rfl) (by kernel_rfl) (fun _ _ _ h => h) (Or.inl ⟨by rfl, ?_⟩) (⟨M1.out.drewN 1, below_drewN N1.out 1⟩) ?_
              rotate_left
              · intro wS hSw
                go_simp
                try with_reducible rfl
              try simp only [List.getElem_toArray, List.getElem_cons_zero, List.getElem_cons_succ, Act.put, List.setIfInBounds_toArray, List.set_cons_zero, List.set_cons_succ]
              refine wpAnyH_take (i := 7) (v := ?_) rfl (by kernel_rfl) (by kernel_rfl) (by kernel_rfl) (fun _ _ _ h => h) (Or.inl ⟨by rfl, ?_⟩) (⟨M1.out.drewN 1, below_drewN N1.out 1⟩) ?_
              rotate_left
              · intro wS hSw
                go_simp
                try with_reducible rfl
              try simp only [List.getElem_toArray, List.getElem_cons_zero, List.getElem_cons_succ, Act.put, List.setIfInBounds_toArray, List.set_cons_zero, List.set_cons_succ]
              refine wpAnyH_take (i := 9) (v := ?_) rfl (by kernel_rfl) (by kernel_rfl) (by kernel_rfl) (fun _ _ _ h => h) (Or.inl ⟨by rfl, ?_⟩) (⟨M1.out.drewN 1, below_drewN N1.out 1⟩) ?_
              rotate_left
              · intro wS hSw
                go_simp
                try with_reducible rfl
              try simp only [List.getElem_toArray, List.getElem_cons_zero, List.getElem_cons_succ, Act.put, List.setIfInBounds_toArray, List.set_cons_zero, List.set_cons_succ]
              refine wpAnyH_take (i := 10) (v := ?_) rfl (by kernel_rfl) (by kernel_rfl) (by kernel_rfl) (fun _ _ _ h => h) (Or.inl ⟨by rfl, ?_⟩) (⟨M1.out.drewN 1, below_drewN N1.out 1⟩) ?_
              rotate_left
              · intro wS hSw
                go_simp
                try with_reducible rfl
              try simp only [List.getElem_toArray, List.getElem_cons_zero, List.getElem_cons_succ, Act.put, List.setIfInBounds_toArray, List.set_cons_zero, List.set_cons_succ]
              refine wpAnyH_take (i := 11) (v := ?_) rfl (by kernel_rfl) (by kernel_rfl) (by kernel_rfl) (fun _ _ _ h => h) (Or.inl ⟨by rfl, ?_⟩) (⟨M1.out.drewN 1, below_drewN N1.out 1⟩) ?_
              rotate_left
              · intro wS hSw
                go_simp
                try with_reducible rfl
              try simp only [List.getElem_toArray, List.getElem_cons_zero, List.getElem_cons_succ, Act.put, List.setIfInBounds_toArray, List.set_cons_zero, List.set_cons_succ]
              refine wpAnyH_take (i := 8) (v := ?_) rfl (by kernel_rfl) (by kernel_rfl) (by kernel_rfl) (fun _ _ _ h => h) (Or.inl ⟨by rfl, ?_⟩) (⟨M1.out.drewN 1, below_drewN N1.out 1⟩) ?_
              rotate_left
              · intro wS hSw
                have hcv := hSw.1.at0 HID1.out.1 HXD1.out.1
                have hcv2 := hSw.1.at1 HID1.out.1 HXD1.out.1
                go_simp
                try with_reducible rfl
              try simp only [List.getElem_toArray, List.getElem_cons_zero, List.getElem_cons_succ, Act.put, List.setIfInBounds_toArray, List.set_cons_zero, List.set_cons_succ]
              refine wpAnyH_take (i := 12) (v := ?_) rfl (by kernel_rfl) (by kernel_rfl) (by kernel_rfl) (fun _ _ _ h => h) (Or.inl ⟨by rfl, ?_⟩) (⟨M1.out.drewN 1, below_drewN N1.out 1⟩) ?_
              rotate_left
              · intro wS hSw
                have hcv := hSw.1.at0 HID1.out.2 HXD1.out.2
                have hcv2 := hSw.1.at1 HID1.out.2 HXD1.out.2
                go_simp
                try with_reducible rfl
              try simp only [List.getElem_toArray, List.getElem_cons_zero, List.getElem_cons_succ, Act.put, List.setIfInBounds_toArray, List.set_cons_zero, List.set_cons_succ]
              refine wpAnyH_ready (rs := [13]) (by kernel_rfl) (by simp) ?_
              refine AllReadyH.cons rfl (fun K hK => ?_) AllReadyH.nil
              go_simp
              refine (ordCmp xD1 yD1 _).mono ?_
              rintro e wD1 ⟨rfl, hbD1⟩
              have HLD1 := Lib.hid ((M1.out.drewN 1).below hbD1 M1.out.lt)
              have HBD1 := Lib.hid ((below_drewN N1.out 1).trans (hbD1.mono (Nat.le_trans hg (Nat.le_of_lt M1.out.lt))))
              clear hbD1
              refine hK.out _ _ ⟨HLD1.out, HBD1.out⟩ (fun _ => ?_)
              clear hK K
              try simp only [List.getElem_toArray, List.getElem_cons_zero, List.getElem_cons_succ, Act.put, List.setIfInBounds_toArray, List.set_cons_zero, List.set_cons_succ]
              refine wpAnyH_take (i := 14) (v := ?_) rfl (by kernel_rfl) (by kernel_rfl) (by kernel_rfl) (fun _ _ _ h => h) (Or.inl ⟨by rfl, ?_⟩) ⟨HLD1.out, HBD1.out⟩ ?_
              rotate_left
              · intro wS hSw
                go_simp
                try with_reducible rfl
              try simp only [List.getElem_toArray, List.getElem_cons_zero, List.getElem_cons_succ, Act.put, List.setIfInBounds_toArray, List.set_cons_zero, List.set_cons_succ]
              refine wpAnyH_take (i := 15) (v := ?_) rfl (by kernel_rfl) (by kernel_rfl) (by kernel_rfl) (fun _ _ _ h => h) (Or.inl ⟨by rfl, ?_⟩) ⟨HLD1.out, HBD1.out⟩ ?_
              rotate_left
              · intro wS hSw
                go_simp
                try with_reducible rfl
              try simp only [List.getElem_toArray, List.getElem_cons_zero, List.getElem_cons_succ, Act.put, List.setIfInBounds_toArray, List.set_cons_zero, List.set_cons_succ]
              refine wpAnyH_take (i := 16) (v := ?_) rfl (by kernel_rfl) (by kernel_rfl) (by kernel_rfl) (fun _ _ _ h => h) (Or.inl ⟨by rfl, ?_⟩) ⟨HLD1.out, HBD1.out⟩ ?_
              rotate_left
              · intro wS hSw
                go_simp
                try with_reducible rfl
              try simp only [List.getElem_toArray, List.getElem_cons_zero, List.getElem_cons_succ, Act.put, List.setIfInBounds_toArray, List.set_cons_zero, List.set_cons_succ]
              refine wpAnyH_done (by kernel_rfl) ?_ _

              have hlt1 : i1 < q1 := by
                rcases Nat.lt_or_ge i1 q1 with h | h
                · exact h
                · have e : i1 = q1 := by omega
                  have h1 := HV1.out
                  rw [← e] at h1
                  have h2 := HN1.out
                  rw [h1] at h2
                  exact absurd h2 (by decide)
              have hltz1 : ¬ (q1 : Int) < (i1 : Int) := by omega
              have C91 := Lib.hid (E1.out.swap hlt1 HN1.out HV1.out)
              go_wp2
              obtain ⟨pW, hpW⟩ : ∃ x, x = D1[i1]! := ⟨_, rfl⟩
              obtain ⟨qW, hqW⟩ : ∃ x, x = D1[q1]! := ⟨_, rfl⟩
              have hSW := HLD1.out.swap (i := i1) (j := q1) (by have := E1.out.hai; have := E1.out.hjb; have := E1.out.hij; have := ZD1.out; omega) (by have := E1.out.hai; have := E1.out.hjb; have := E1.out.hij; have := ZD1.out; omega)
              rw [← hpW, ← hqW] at hSW
              have HSW := Lib.hid hSW
              have HTW := Lib.hid (below4 HBD1.out hg ((i1) * 2) ((i1) * 2 + 1) ((q1) * 2) ((q1) * 2 + 1) (.string qW.1) (.string qW.2) (.string pW.1) (.string pW.2))
              have l0W := HLD1.out.at0 (i := i1) (by have := E1.out.hai; have := E1.out.hjb; have := E1.out.hij; have := ZD1.out; omega) hpW
              have l1W := HLD1.out.at1 (i := i1) (by have := E1.out.hai; have := E1.out.hjb; have := E1.out.hij; have := ZD1.out; omega) hpW
              have l2W := HLD1.out.at0 (i := q1) (by have := E1.out.hai; have := E1.out.hjb; have := E1.out.hij; have := ZD1.out; omega) hqW
              have l3W := HLD1.out.at1 (i := q1) (by have := E1.out.hai; have := E1.out.hjb; have := E1.out.hij; have := ZD1.out; omega) hqW
              have f0W := HLD1.out.fr ((i1) * 2)
              have f1W := HLD1.out.fr ((i1) * 2 + 1)
              have f2W := HLD1.out.fr ((q1) * 2)
              have f3W := HLD1.out.fr ((q1) * 2 + 1)
              obtain ⟨v2W, m2W⟩ := HLD1.out.ex ((q1) * 2) ((i1) * 2) (.string qW.1) (by have hjz : q1 < D1.size := (by have := E1.out.hai; have := E1.out.hjb; have := E1.out.hij; have := ZD1.out; omega); omega)
              obtain ⟨v3W, m3W⟩ := HLD1.out.ex2 ((q1) * 2 + 1) ((i1) * 2) ((i1) * 2 + 1) (.string qW.1) (.string qW.2) (by have hjz : q1 < D1.size := (by have := E1.out.hai; have := E1.out.hjb; have := E1.out.hij; have := ZD1.out; omega); omega)
              clear hpW hqW hSW

              go_region
              all_goals (try go_wp2)
              have LW := Lib.hid (HSW.out.drewN 1)
              have BW := Lib.hid (below_drewN HTW.out 1)
              have ZW : Hid ((Go.Sort.swp D1 i1 q1).size = n) := Lib.hid (by rw [Go.Sort.size_swp]; exact ZD1.out)
              clear l0W l1W l2W l3W f0W f1W f2W f3W m2W m3W HSW HLD1 HBD1 HV1 HN1
              go_loopw [12, 13] (fun vi vj wr => ∃ (i j : Nat) (dk : Array Sn), vi = .int .i64 i ∧ vj = .int .i64 j ∧ Hid (dk.size = n) ∧ Hid (CutI (fun q x => ltS x q) d[p]! a b d i j dk) ∧ Hid (Lies wr g dk) ∧ Hid (Below B w wr)) (fun vi vj _ => (Go.RowKit.intOf vj).toNat + 1 - (Go.RowKit.intOf vi).toNat)
              case atStart => exact ⟨i1 + 1, q1 - 1, _, by go_num, by go_num, ZW, C91, LW, BW⟩
              case round =>
                clear C91 LW BW ZW
                obtain ⟨I2, J2, D2, rfl, rfl, ZD2, C8, L9, B9⟩ := hrel
                have g1 := C8.out.hai
                have g2 := C8.out.hjb
                have g3 := C8.out.hij
                go_wp2
                go_loopw [12] (fun vi wr => ∃ i : Nat, vi = .int .i64 i ∧ I2 ≤ i ∧ Hid (CutI (fun q x => ltS x q) d[p]! a b d i J2 D2) ∧ Hid (Lies wr g D2) ∧ Hid (Below B w wr)) (fun vi _ => J2 + 1 - (Go.RowKit.intOf vi).toNat)
                case atStart => exact ⟨I2, by first | rfl | go_num, Nat.le_refl _, C8, L9, B9⟩
                case round =>
                  obtain ⟨i2, rfl, c02, C2, L2, B2⟩ := hrel
                  have c12 := C2.out.hai
                  have c22 := C2.out.hjb
                  have c32 := C2.out.hij
                  by_cases hle2 : i2 ≤ J2
                  · have hlez2 : (i2 : Int) ≤ (J2 : Int) := by omega
                    have hin2 : (i2 : Int) < (n : Int) := by omega
                    cases hcA : ltS D2[i2]! D2[a]! with
                    | true =>
                      have C22 := Lib.hid (C2.out.up hle2 (by rw [← C2.out.piv]; simp [hcA]))
                      obtain ⟨xU2, hxU2⟩ : ∃ x, x = D2[i2]! := ⟨_, rfl⟩
                      obtain ⟨yU2, hyU2⟩ : ∃ x, x = D2[a]! := ⟨_, rfl⟩
                      rw [← hxU2, ← hyU2] at hcA
                      have hiU2 : i2 < D2.size := by have := C2.out.hai; have := C2.out.hjb; have := ZD2.out; omega
                      have hjU2 : a < D2.size := by have := C2.out.hai; have := C2.out.hjb; have := ZD2.out; omega
                      have hvU2 : cfS xU2 yU2 < 0 := (cf_lt _ _).2 hcA
                      have hdU2 : decide (cfS xU2 yU2 < 0) = true := decide_eq_true hvU2
                      have HXU2 := Lib.hid (And.intro hxU2 hyU2)
                      have HIU2 := Lib.hid (And.intro hiU2 hjU2)
                      have HCU2 := Lib.hid hcA
                      clear hxU2 hyU2 hiU2 hjU2 hcA
                      go_wp2
                      refine wp_region_held_drew (S := (fun wQq => Lies wQq g D2 ∧ Below B w wQq)) (by kernel_rfl) (⟨L2.out.drewN 1, below_drewN B2.out 1⟩) (fun _ => ?_)
                      refine wpAnyH_take (i := 0) (v := ?_) rfl (by kernel_rfl) (by kernel_rfl) (by kernel_rfl) (fun _ _ _ h => h) (Or.inl ⟨by rfl, ?_⟩) (⟨L2.out.drewN 1, below_drewN B2.out 1⟩) ?_
                      rotate_left
                      · intro wS hSw
                        go_simp
                        try with_reducible rfl
                      try simp only [List.getElem_toArray, List.getElem_cons_zero, List.getElem_cons_succ, Act.put, List.setIfInBounds_toArray, List.set_cons_zero, List.set_cons_succ]
                      refine wpAnyH_take (i := 1) (v := ?_) rfl (by kernel_rfl) (by kernel_rfl) (by kernel_rfl) (fun _ _ _ h => h) (Or.inl ⟨by rfl, ?_⟩) (⟨L2.out.drewN 1, below_drewN B2.out 1⟩) ?_
                      rotate_left
                      · intro wS hSw
                        go_simp
                        try with_reducible rfl
                      try simp only [List.getElem_toArray, List.getElem_cons_zero, List.getElem_cons_succ, Act.put, List.setIfInBounds_toArray, List.set_cons_zero, List.set_cons_succ]
                      refine wpAnyH_take (i := 2) (v := ?_) rfl (by kernel_rfl) (by kernel_rfl) (by kernel_rfl) (fun _ _ _ h => h) (Or.inl ⟨by rfl, ?_⟩) (⟨L2.out.drewN 1, below_drewN B2.out 1⟩) ?_
                      rotate_left
                      · intro wS hSw
                        go_simp
                        try with_reducible rfl
                      try simp only [List.getElem_toArray, List.getElem_cons_zero, List.getElem_cons_succ, Act.put, List.setIfInBounds_toArray, List.set_cons_zero, List.set_cons_succ]
                      refine wpAnyH_take (i := 3) (v := ?_) rfl (by kernel_rfl) (by kernel_rfl) (by kernel_rfl) (fun _ _ _ h => h) (Or.inl ⟨by rfl, ?_⟩) (⟨L2.out.drewN 1, below_drewN B2.out 1⟩) ?_
                      rotate_left
                      · intro wS hSw
                        go_simp
                        try with_reducible rfl
                      try simp only [List.getElem_toArray, List.getElem_cons_zero, List.getElem_cons_succ, Act.put, List.setIfInBounds_toArray, List.set_cons_zero, List.set_cons_succ]
                      refine wpAnyH_take (i := 4) (v := ?_) rfl (by kernel_rfl) (by kernel_rfl) (by kernel_rfl) (fun _ _ _ h => h) (Or.inl ⟨by rfl, ?_⟩) (⟨L2.out.drewN 1, below_drewN B2.out 1⟩) ?_
                      rotate_left
                      · intro wS hSw
                        go_simp
                        try with_reducible rfl
                      try simp only [List.getElem_toArray, List.getElem_cons_zero, List.getElem_cons_succ, Act.put, List.setIfInBounds_toArray, List.set_cons_zero, List.set_cons_succ]
                      refine wpAnyH_take (i := 5) (v := ?_) rfl (by kernel_rfl) (by kernel_rfl) (by kernel_rfl) (fun _ _ _ h => h) (Or.inl ⟨by rfl, ?_⟩) (⟨L2.out.drewN 1, below_drewN B2.out 1⟩) ?_
                      rotate_left
                      · intro wS hSw
                        go_simp
                        try with_reducible rfl
                      try simp only [List.getElem_toArray, List.getElem_cons_zero, List.getElem_cons_succ, Act.put, List.setIfInBounds_toArray, List.set_cons_zero, List.set_cons_succ]
                      refine wpAnyH_take (i := 6) (v := ?_) rfl (by kernel_rfl) (by kernel_rfl) (by kernel_rfl) (fun _ _ _ h => h) (Or.inl ⟨by rfl, ?_⟩) (⟨L2.out.drewN 1, below_drewN B2.out 1⟩) ?_
                      rotate_left
                      · intro wS hSw
                        go_simp
                        try with_reducible rfl
                      try simp only [List.getElem_toArray, List.getElem_cons_zero, List.getElem_cons_succ, Act.put, List.setIfInBounds_toArray, List.set_cons_zero, List.set_cons_succ]
                      refine wpAnyH_take (i := 7) (v := ?_) rfl (by kernel_rfl) (by kernel_rfl) (by kernel_rfl) (fun _ _ _ h => h) (Or.inl ⟨by rfl, ?_⟩) (⟨L2.out.drewN 1, below_drewN B2.out 1⟩) ?_
                      rotate_left
                      · intro wS hSw
                        go_simp
                        try with_reducible rfl
                      try simp only [List.getElem_toArray, List.getElem_cons_zero, List.getElem_cons_succ, Act.put, List.setIfInBounds_toArray, List.set_cons_zero, List.set_cons_succ]
                      refine wpAnyH_take (i := 9) (v := ?_) rfl (by kernel_rfl) (by kernel_rfl) (by kernel_rfl) (fun _ _ _ h => h) (Or.inl ⟨by rfl, ?_⟩) (⟨L2.out.drewN 1, below_drewN B2.out 1⟩) ?_
                      rotate_left
                      · intro wS hSw
                        go_simp
                        try with_reducible rfl
                      try simp only [List.getElem_toArray, List.getElem_cons_zero, List.getElem_cons_succ, Act.put, List.setIfInBounds_toArray, List.set_cons_zero, List.set_cons_succ]
                      refine wpAnyH_take (i := 10) (v := ?_) rfl (by kernel_rfl) (by kernel_rfl) (by kernel_rfl) (fun _ _ _ h => h) (Or.inl ⟨by rfl, ?_⟩) (⟨L2.out.drewN 1, below_drewN B2.out 1⟩) ?_
                      rotate_left
                      · intro wS hSw
                        go_simp
                        try with_reducible rfl
                      try simp only [List.getElem_toArray, List.getElem_cons_zero, List.getElem_cons_succ, Act.put, List.setIfInBounds_toArray, List.set_cons_zero, List.set_cons_succ]
                      refine wpAnyH_take (i := 11) (v := ?_) rfl (by kernel_rfl) (by kernel_rfl) (by kernel_rfl) (fun _ _ _ h => h) (Or.inl ⟨by rfl, ?_⟩) (⟨L2.out.drewN 1, below_drewN B2.out 1⟩) ?_
                      rotate_left
                      · intro wS hSw
                        go_simp
                        try with_reducible rfl
                      try simp only [List.getElem_toArray, List.getElem_cons_zero, List.getElem_cons_succ, Act.put, List.setIfInBounds_toArray, List.set_cons_zero, List.set_cons_succ]
                      refine wpAnyH_take (i := 8) (v := ?_) rfl (by kernel_rfl) (by kernel_rfl) (by kernel_rfl) (fun _ _ _ h => h) (Or.inl ⟨by rfl, ?_⟩) (⟨L2.out.drewN 1, below_drewN B2.out 1⟩) ?_
                      rotate_left
                      · intro wS hSw
                        have hcv := hSw.1.at0 HIU2.out.1 HXU2.out.1
                        have hcv2 := hSw.1.at1 HIU2.out.1 HXU2.out.1
                        go_simp
                        try with_reducible rfl
                      try simp only [List.getElem_toArray, List.getElem_cons_zero, List.getElem_cons_succ, Act.put, List.setIfInBounds_toArray, List.set_cons_zero, List.set_cons_succ]
                      refine wpAnyH_take (i := 12) (v := ?_) rfl (by kernel_rfl) (by kernel_rfl) (by kernel_rfl) (fun _ _ _ h => h) (Or.inl ⟨by rfl, ?_⟩) (⟨L2.out.drewN 1, below_drewN B2.out 1⟩) ?_
                      rotate_left
                      · intro wS hSw
                        have hcv := hSw.1.at0 HIU2.out.2 HXU2.out.2
                        have hcv2 := hSw.1.at1 HIU2.out.2 HXU2.out.2
                        go_simp
                        try with_reducible rfl
                      try simp only [List.getElem_toArray, List.getElem_cons_zero, List.getElem_cons_succ, Act.put, List.setIfInBounds_toArray, List.set_cons_zero, List.set_cons_succ]
                      refine wpAnyH_ready (rs := [13]) (by kernel_rfl) (by simp) ?_
                      refine AllReadyH.cons rfl (fun K hK => ?_) AllReadyH.nil
                      go_simp
                      refine (ordCmp xU2 yU2 _).mono ?_
                      rintro e wU2 ⟨rfl, hbU2⟩
                      have HLU2 := Lib.hid ((L2.out.drewN 1).below hbU2 L2.out.lt)
                      have HBU2 := Lib.hid ((below_drewN B2.out 1).trans (hbU2.mono (Nat.le_trans hg (Nat.le_of_lt L2.out.lt))))
                      clear hbU2
                      refine hK.out _ _ ⟨HLU2.out, HBU2.out⟩ (fun _ => ?_)
                      clear hK K
                      try simp only [List.getElem_toArray, List.getElem_cons_zero, List.getElem_cons_succ, Act.put, List.setIfInBounds_toArray, List.set_cons_zero, List.set_cons_succ]
                      refine wpAnyH_take (i := 14) (v := ?_) rfl (by kernel_rfl) (by kernel_rfl) (by kernel_rfl) (fun _ _ _ h => h) (Or.inl ⟨by rfl, ?_⟩) ⟨HLU2.out, HBU2.out⟩ ?_
                      rotate_left
                      · intro wS hSw
                        go_simp
                        try with_reducible rfl
                      try simp only [List.getElem_toArray, List.getElem_cons_zero, List.getElem_cons_succ, Act.put, List.setIfInBounds_toArray, List.set_cons_zero, List.set_cons_succ]
                      refine wpAnyH_take (i := 15) (v := ?_) rfl (by kernel_rfl) (by kernel_rfl) (by kernel_rfl) (fun _ _ _ h => h) (Or.inl ⟨by rfl, ?_⟩) ⟨HLU2.out, HBU2.out⟩ ?_
                      rotate_left
                      · intro wS hSw
                        go_simp
                        try with_reducible rfl
                      try simp only [List.getElem_toArray, List.getElem_cons_zero, List.getElem_cons_succ, Act.put, List.setIfInBounds_toArray, List.set_cons_zero, List.set_cons_succ]
                      refine wpAnyH_done (by kernel_rfl) ?_ _

                      go_wp2
                      go_roundw
                      case rel => exact ⟨i2 + 1, by go_num, by omega, C22, HLU2, HBU2⟩
                      case measure => first | (simp [Go.RowKit.intOf]; done) | (simp [Go.RowKit.intOf]; omega)
                    | false =>
                      have HN2 := Lib.hid (show (fun q x => ltS x q) d[p]! D2[i2]! = false by rw [← C2.out.piv]; simp [hcA])
                      obtain ⟨xU2, hxU2⟩ : ∃ x, x = D2[i2]! := ⟨_, rfl⟩
                      obtain ⟨yU2, hyU2⟩ : ∃ x, x = D2[a]! := ⟨_, rfl⟩
                      rw [← hxU2, ← hyU2] at hcA
                      have hiU2 : i2 < D2.size := by have := C2.out.hai; have := C2.out.hjb; have := ZD2.out; omega
                      have hjU2 : a < D2.size := by have := C2.out.hai; have := C2.out.hjb; have := ZD2.out; omega
                      have hvU2 : ¬ cfS xU2 yU2 < 0 := (cf_lt_no _ _).2 hcA
                      have hdU2 : decide (cfS xU2 yU2 < 0) = false := decide_eq_false hvU2
                      have HXU2 := Lib.hid (And.intro hxU2 hyU2)
                      have HIU2 := Lib.hid (And.intro hiU2 hjU2)
                      have HCU2 := Lib.hid hcA
                      clear hxU2 hyU2 hiU2 hjU2 hcA
                      go_wp2
                      refine wp_region_held_drew (S := (fun wQq => Lies wQq g D2 ∧ Below B w wQq)) (by kernel_rfl) (⟨L2.out.drewN 1, below_drewN B2.out 1⟩) (fun _ => ?_)
                      refine wpAnyH_take (i := 0) (v := ?_) rfl (by kernel_rfl) (by kernel_rfl) (by kernel_rfl) (fun _ _ _ h => h) (Or.inl ⟨by rfl, ?_⟩) (⟨L2.out.drewN 1, below_drewN B2.out 1⟩) ?_
                      rotate_left
                      · intro wS hSw
                        go_simp
                        try with_reducible rfl
                      try simp only [List.getElem_toArray, List.getElem_cons_zero, List.getElem_cons_succ, Act.put, List.setIfInBounds_toArray, List.set_cons_zero, List.set_cons_succ]
                      refine wpAnyH_take (i := 1) (v := ?_) rfl (by kernel_rfl) (by kernel_rfl) (by kernel_rfl) (fun _ _ _ h => h) (Or.inl ⟨by rfl, ?_⟩) (⟨L2.out.drewN 1, below_drewN B2.out 1⟩) ?_
                      rotate_left
                      · intro wS hSw
                        go_simp
                        try with_reducible rfl
                      try simp only [List.getElem_toArray, List.getElem_cons_zero, List.getElem_cons_succ, Act.put, List.setIfInBounds_toArray, List.set_cons_zero, List.set_cons_succ]
                      refine wpAnyH_take (i := 2) (v := ?_) rfl (by kernel_rfl) (by kernel_rfl) (by kernel_rfl) (fun _ _ _ h => h) (Or.inl ⟨by rfl, ?_⟩) (⟨L2.out.drewN 1, below_drewN B2.out 1⟩) ?_
                      rotate_left
                      · intro wS hSw
                        go_simp
                        try with_reducible rfl
                      try simp only [List.getElem_toArray, List.getElem_cons_zero, List.getElem_cons_succ, Act.put, List.setIfInBounds_toArray, List.set_cons_zero, List.set_cons_succ]
                      refine wpAnyH_take (i := 3) (v := ?_) rfl (by kernel_rfl) (by kernel_rfl) (by kernel_rfl) (fun _ _ _ h => h) (Or.inl ⟨by rfl, ?_⟩) (⟨L2.out.drewN 1, below_drewN B2.out 1⟩) ?_
                      rotate_left
                      · intro wS hSw
                        go_simp
                        try with_reducible rfl
                      try simp only [List.getElem_toArray, List.getElem_cons_zero, List.getElem_cons_succ, Act.put, List.setIfInBounds_toArray, List.set_cons_zero, List.set_cons_succ]
                      refine wpAnyH_take (i := 4) (v := ?_) rfl (by kernel_rfl) (by kernel_rfl) (by kernel_rfl) (fun _ _ _ h => h) (Or.inl ⟨by rfl, ?_⟩) (⟨L2.out.drewN 1, below_drewN B2.out 1⟩) ?_
                      rotate_left
                      · intro wS hSw
                        go_simp
                        try with_reducible rfl
                      try simp only [List.getElem_toArray, List.getElem_cons_zero, List.getElem_cons_succ, Act.put, List.setIfInBounds_toArray, List.set_cons_zero, List.set_cons_succ]
                      refine wpAnyH_take (i := 5) (v := ?_) rfl (by kernel_rfl) (by kernel_rfl) (by kernel_rfl) (fun _ _ _ h => h) (Or.inl ⟨by rfl, ?_⟩) (⟨L2.out.drewN 1, below_drewN B2.out 1⟩) ?_
                      rotate_left
                      · intro wS hSw
                        go_simp
                        try with_reducible rfl
                      try simp only [List.getElem_toArray, List.getElem_cons_zero, List.getElem_cons_succ, Act.put, List.setIfInBounds_toArray, List.set_cons_zero, List.set_cons_succ]
                      refine wpAnyH_take (i := 6) (v := ?_) rfl (by kernel_rfl) (by kernel_rfl) (by kernel_rfl) (fun _ _ _ h => h) (Or.inl ⟨by rfl, ?_⟩) (⟨L2.out.drewN 1, below_drewN B2.out 1⟩) ?_
                      rotate_left
                      · intro wS hSw
                        go_simp
                        try with_reducible rfl
                      try simp only [List.getElem_toArray, List.getElem_cons_zero, List.getElem_cons_succ, Act.put, List.setIfInBounds_toArray, List.set_cons_zero, List.set_cons_succ]
                      refine wpAnyH_take (i := 7) (v := ?_) rfl (by kernel_rfl) (by kernel_rfl) (by kernel_rfl) (fun _ _ _ h => h) (Or.inl ⟨by rfl, ?_⟩) (⟨L2.out.drewN 1, below_drewN B2.out 1⟩) ?_
                      rotate_left
                      · intro wS hSw
                        go_simp
                        try with_reducible rfl
                      try simp only [List.getElem_toArray, List.getElem_cons_zero, List.getElem_cons_succ, Act.put, List.setIfInBounds_toArray, List.set_cons_zero, List.set_cons_succ]
                      refine wpAnyH_take (i := 9) (v := ?_) rfl (by kernel_rfl) (by kernel_rfl) (by kernel_rfl) (fun _ _ _ h => h) (Or.inl ⟨by rfl, ?_⟩) (⟨L2.out.drewN 1, below_drewN B2.out 1⟩) ?_
                      rotate_left
                      · intro wS hSw
                        go_simp
                        try with_reducible rfl
                      try simp only [List.getElem_toArray, List.getElem_cons_zero, List.getElem_cons_succ, Act.put, List.setIfInBounds_toArray, List.set_cons_zero, List.set_cons_succ]
                      refine wpAnyH_take (i := 10) (v := ?_) rfl (by kernel_rfl) (by kernel_rfl) (by kernel_rfl) (fun _ _ _ h => h) (Or.inl ⟨by rfl, ?_⟩) (⟨L2.out.drewN 1, below_drewN B2.out 1⟩) ?_
                      rotate_left
                      · intro wS hSw
                        go_simp
                        try with_reducible rfl
                      try simp only [List.getElem_toArray, List.getElem_cons_zero, List.getElem_cons_succ, Act.put, List.setIfInBounds_toArray, List.set_cons_zero, List.set_cons_succ]
                      refine wpAnyH_take (i := 11) (v := ?_) rfl (by kernel_rfl) (by kernel_rfl) (by kernel_rfl) (fun _ _ _ h => h) (Or.inl ⟨by rfl, ?_⟩) (⟨L2.out.drewN 1, below_drewN B2.out 1⟩) ?_
                      rotate_left
                      · intro wS hSw
                        go_simp
                        try with_reducible rfl
                      try simp only [List.getElem_toArray, List.getElem_cons_zero, List.getElem_cons_succ, Act.put, List.setIfInBounds_toArray, List.set_cons_zero, List.set_cons_succ]
                      refine wpAnyH_take (i := 8) (v := ?_) rfl (by kernel_rfl) (by kernel_rfl) (by kernel_rfl) (fun _ _ _ h => h) (Or.inl ⟨by rfl, ?_⟩) (⟨L2.out.drewN 1, below_drewN B2.out 1⟩) ?_
                      rotate_left
                      · intro wS hSw
                        have hcv := hSw.1.at0 HIU2.out.1 HXU2.out.1
                        have hcv2 := hSw.1.at1 HIU2.out.1 HXU2.out.1
                        go_simp
                        try with_reducible rfl
                      try simp only [List.getElem_toArray, List.getElem_cons_zero, List.getElem_cons_succ, Act.put, List.setIfInBounds_toArray, List.set_cons_zero, List.set_cons_succ]
                      refine wpAnyH_take (i := 12) (v := ?_) rfl (by kernel_rfl) (by kernel_rfl) (by kernel_rfl) (fun _ _ _ h => h) (Or.inl ⟨by rfl, ?_⟩) (⟨L2.out.drewN 1, below_drewN B2.out 1⟩) ?_
                      rotate_left
                      · intro wS hSw
                        have hcv := hSw.1.at0 HIU2.out.2 HXU2.out.2
                        have hcv2 := hSw.1.at1 HIU2.out.2 HXU2.out.2
                        go_simp
                        try with_reducible rfl
                      try simp only [List.getElem_toArray, List.getElem_cons_zero, List.getElem_cons_succ, Act.put, List.setIfInBounds_toArray, List.set_cons_zero, List.set_cons_succ]
                      refine wpAnyH_ready (rs := [13]) (by kernel_rfl) (by simp) ?_
                      refine AllReadyH.cons rfl (fun K hK => ?_) AllReadyH.nil
                      go_simp
                      refine (ordCmp xU2 yU2 _).mono ?_
                      rintro e wU2 ⟨rfl, hbU2⟩
                      have HLU2 := Lib.hid ((L2.out.drewN 1).below hbU2 L2.out.lt)
                      have HBU2 := Lib.hid ((below_drewN B2.out 1).trans (hbU2.mono (Nat.le_trans hg (Nat.le_of_lt L2.out.lt))))
                      clear hbU2
                      refine hK.out _ _ ⟨HLU2.out, HBU2.out⟩ (fun _ => ?_)
                      clear hK K
                      try simp only [List.getElem_toArray, List.getElem_cons_zero, List.getElem_cons_succ, Act.put, List.setIfInBounds_toArray, List.set_cons_zero, List.set_cons_succ]
                      refine wpAnyH_take (i := 14) (v := ?_) rfl (by kernel_rfl) (by kernel_rfl) (by kernel_rfl) (fun _ _ _ h => h) (Or.inl ⟨by rfl, ?_⟩) ⟨HLU2.out, HBU2.out⟩ ?_
                      rotate_left
                      · intro wS hSw
                        go_simp
                        try with_reducible rfl
                      try simp only [List.getElem_toArray, List.getElem_cons_zero, List.getElem_cons_succ, Act.put, List.setIfInBounds_toArray, List.set_cons_zero, List.set_cons_succ]
                      refine wpAnyH_take (i := 15) (v := ?_) rfl (by kernel_rfl) (by kernel_rfl) (by kernel_rfl) (fun _ _ _ h => h) (Or.inl ⟨by rfl, ?_⟩) ⟨HLU2.out, HBU2.out⟩ ?_
                      rotate_left
                      · intro wS hSw
                        go_simp
                        try with_reducible rfl
                      try simp only [List.getElem_toArray, List.getElem_cons_zero, List.getElem_cons_succ, Act.put, List.setIfInBounds_toArray, List.set_cons_zero, List.set_cons_succ]
                      refine wpAnyH_done (by kernel_rfl) ?_ _

                      have LU2 := HLU2
                      have BU2 := HBU2
                      clear HLU2 HBU2
                      go_wp2
                      go_loopw [13] (fun vj wr => ∃ q : Nat, vj = .int .i64 q ∧ q ≤ J2 ∧ Hid (CutI (fun q x => ltS x q) d[p]! a b d i2 q D2) ∧ Hid (Lies wr g D2) ∧ Hid (Below B w wr)) (fun vj _ => (Go.RowKit.intOf vj).toNat)
                      case atStart => exact ⟨J2, by first | rfl | go_num, Nat.le_refl _, C2, LU2, BU2⟩
                      case round =>
                        clear LU2 BU2
                        obtain ⟨q2, rfl, e02, E2, M2, N2⟩ := hrel
                        have e12 := E2.out.hai
                        have e22 := E2.out.hjb
                        have e32 := E2.out.hij
                        by_cases hlq2 : i2 ≤ q2
                        · have hlqz2 : (i2 : Int) ≤ (q2 : Int) := by omega
                          have hqn2 : (q2 : Int) < (n : Int) := by omega
                          have hwq2 : IntKind.i64.wrap ((q2 : Int) - 1) = (q2 : Int) - 1 := by rw [IntKind.wrap_i64]; omega
                          cases hcA : ltS D2[q2]! D2[a]! with
                          | false =>
                            have E22 := Lib.hid (E2.out.down hlq2 (by rw [← E2.out.piv]; simp [hcA]))
                            obtain ⟨xD2, hxD2⟩ : ∃ x, x = D2[q2]! := ⟨_, rfl⟩
                            obtain ⟨yD2, hyD2⟩ : ∃ x, x = D2[a]! := ⟨_, rfl⟩
                            rw [← hxD2, ← hyD2] at hcA
                            have hiD2 : q2 < D2.size := by have := E2.out.hai; have := E2.out.hjb; have := ZD2.out; omega
                            have hjD2 : a < D2.size := by have := E2.out.hai; have := E2.out.hjb; have := ZD2.out; omega
                            have hvD2 : ¬ cfS xD2 yD2 < 0 := (cf_lt_no _ _).2 hcA
                            have hdD2 : decide (cfS xD2 yD2 < 0) = false := decide_eq_false hvD2
                            have HXD2 := Lib.hid (And.intro hxD2 hyD2)
                            have HID2 := Lib.hid (And.intro hiD2 hjD2)
                            have HCD2 := Lib.hid hcA
                            clear hxD2 hyD2 hiD2 hjD2 hcA
                            go_wp2
                            refine wp_region_held_drew (S := (fun wQq => Lies wQq g D2 ∧ Below B w wQq)) (by kernel_rfl) (⟨M2.out.drewN 1, below_drewN N2.out 1⟩) (fun _ => ?_)
                            refine wpAnyH_take (i := 0) (v := ?_) rfl (by kernel_rfl) (by kernel_rfl) (by kernel_rfl) (fun _ _ _ h => h) (Or.inl ⟨by rfl, ?_⟩) (⟨M2.out.drewN 1, below_drewN N2.out 1⟩) ?_
                            rotate_left
                            · intro wS hSw
                              go_simp
                              try with_reducible rfl
                            try simp only [List.getElem_toArray, List.getElem_cons_zero, List.getElem_cons_succ, Act.put, List.setIfInBounds_toArray, List.set_cons_zero, List.set_cons_succ]
                            refine wpAnyH_take (i := 1) (v := ?_) rfl (by kernel_rfl) (by kernel_rfl) (by kernel_rfl) (fun _ _ _ h => h) (Or.inl ⟨by rfl, ?_⟩) (⟨M2.out.drewN 1, below_drewN N2.out 1⟩) ?_
                            rotate_left
                            · intro wS hSw
                              go_simp
                              try with_reducible rfl
                            try simp only [List.getElem_toArray, List.getElem_cons_zero, List.getElem_cons_succ, Act.put, List.setIfInBounds_toArray, List.set_cons_zero, List.set_cons_succ]
                            refine wpAnyH_take (i := 2) (v := ?_) rfl (by kernel_rfl) (by kernel_rfl) (by kernel_rfl) (fun _ _ _ h => h) (Or.inl ⟨by rfl, ?_⟩) (⟨M2.out.drewN 1, below_drewN N2.out 1⟩) ?_
                            rotate_left
                            · intro wS hSw
                              go_simp
                              try with_reducible rfl
                            try simp only [List.getElem_toArray, List.getElem_cons_zero, List.getElem_cons_succ, Act.put, List.setIfInBounds_toArray, List.set_cons_zero, List.set_cons_succ]
                            refine wpAnyH_take (i := 3) (v := ?_) rfl (by kernel_rfl) (by kernel_rfl) (by kernel_rfl) (fun _ _ _ h => h) (Or.inl ⟨by rfl, ?_⟩) (⟨M2.out.drewN 1, below_drewN N2.out 1⟩) ?_
                            rotate_left
                            · intro wS hSw
                              go_simp
                              try with_reducible rfl
                            try simp only [List.getElem_toArray, List.getElem_cons_zero, List.getElem_cons_succ, Act.put, List.setIfInBounds_toArray, List.set_cons_zero, List.set_cons_succ]
                            refine wpAnyH_take (i := 4) (v := ?_) rfl (by kernel_rfl) (by kernel_rfl) (by kernel_rfl) (fun _ _ _ h => h) (Or.inl ⟨by rfl, ?_⟩) (⟨M2.out.drewN 1, below_drewN N2.out 1⟩) ?_
                            rotate_left
                            · intro wS hSw
                              go_simp
                              try with_reducible rfl
                            try simp only [List.getElem_toArray, List.getElem_cons_zero, List.getElem_cons_succ, Act.put, List.setIfInBounds_toArray, List.set_cons_zero, List.set_cons_succ]
                            refine wpAnyH_take (i := 5) (v := ?_) rfl (by kernel_rfl) (by kernel_rfl) (by kernel_rfl) (fun _ _ _ h => h) (Or.inl ⟨by rfl, ?_⟩) (⟨M2.out.drewN 1, below_drewN N2.out 1⟩) ?_
                            rotate_left
                            · intro wS hSw
                              go_simp
                              try with_reducible rfl
                            try simp only [List.getElem_toArray, List.getElem_cons_zero, List.getElem_cons_succ, Act.put, List.setIfInBounds_toArray, List.set_cons_zero, List.set_cons_succ]
                            refine wpAnyH_take (i := 6) (v := ?_) rfl (by kernel_rfl) (by kernel_rfl) (by kernel_rfl) (fun _ _ _ h => h) (Or.inl ⟨by rfl, ?_⟩) (⟨M2.out.drewN 1, below_drewN N2.out 1⟩) ?_
                            rotate_left
                            · intro wS hSw
                              go_simp
                              try with_reducible rfl
                            try simp only [List.getElem_toArray, List.getElem_cons_zero, List.getElem_cons_succ, Act.put, List.setIfInBounds_toArray, List.set_cons_zero, List.set_cons_succ]
                            refine wpAnyH_take (i := 7) (v := ?_) rfl (by kernel_rfl) (by kernel_rfl) (by kernel_rfl) (fun _ _ _ h => h) (Or.inl ⟨by rfl, ?_⟩) (⟨M2.out.drewN 1, below_drewN N2.out 1⟩) ?_
                            rotate_left
                            · intro wS hSw
                              go_simp
                              try with_reducible rfl
                            try simp only [List.getElem_toArray, List.getElem_cons_zero, List.getElem_cons_succ, Act.put, List.setIfInBounds_toArray, List.set_cons_zero, List.set_cons_succ]
                            refine wpAnyH_take (i := 9) (v := ?_) rfl (by kernel_rfl) (by kernel_rfl) (by kernel_rfl) (fun _ _ _ h => h) (Or.inl ⟨by rfl, ?_⟩) (⟨M2.out.drewN 1, below_drewN N2.out 1⟩) ?_
                            rotate_left
                            · intro wS hSw
                              go_simp
                              try with_reducible rfl
                            try simp only [List.getElem_toArray, List.getElem_cons_zero, List.getElem_cons_succ, Act.put, List.setIfInBounds_toArray, List.set_cons_zero, List.set_cons_succ]
                            refine wpAnyH_take (i := 10) (v := ?_) rfl (by kernel_rfl) (by kernel_rfl) (by kernel_rfl) (fun _ _ _ h => h) (Or.inl ⟨by rfl, ?_⟩) (⟨M2.out.drewN 1, below_drewN N2.out 1⟩) ?_
                            rotate_left
                            · intro wS hSw
                              go_simp
                              try with_reducible rfl
                            try simp only [List.getElem_toArray, List.getElem_cons_zero, List.getElem_cons_succ, Act.put, List.setIfInBounds_toArray, List.set_cons_zero, List.set_cons_succ]
                            refine wpAnyH_take (i := 11) (v := ?_) rfl (by kernel_rfl) (by kernel_rfl) (by kernel_rfl) (fun _ _ _ h => h) (Or.inl ⟨by rfl, ?_⟩) (⟨M2.out.drewN 1, below_drewN N2.out 1⟩) ?_
                            rotate_left
                            · intro wS hSw
                              go_simp
                              try with_reducible rfl
                            try simp only [List.getElem_toArray, List.getElem_cons_zero, List.getElem_cons_succ, Act.put, List.setIfInBounds_toArray, List.set_cons_zero, List.set_cons_succ]
                            refine wpAnyH_take (i := 8) (v := ?_) rfl (by kernel_rfl) (by kernel_rfl) (by kernel_rfl) (fun _ _ _ h => h) (Or.inl ⟨by rfl, ?_⟩) (⟨M2.out.drewN 1, below_drewN N2.out 1⟩) ?_
                            rotate_left
                            · intro wS hSw
                              have hcv := hSw.1.at0 HID2.out.1 HXD2.out.1
                              have hcv2 := hSw.1.at1 HID2.out.1 HXD2.out.1
                              go_simp
                              try with_reducible rfl
                            try simp only [List.getElem_toArray, List.getElem_cons_zero, List.getElem_cons_succ, Act.put, List.setIfInBounds_toArray, List.set_cons_zero, List.set_cons_succ]
                            refine wpAnyH_take (i := 12) (v := ?_) rfl (by kernel_rfl) (by kernel_rfl) (by kernel_rfl) (fun _ _ _ h => h) (Or.inl ⟨by rfl, ?_⟩) (⟨M2.out.drewN 1, below_drewN N2.out 1⟩) ?_
                            rotate_left
                            · intro wS hSw
                              have hcv := hSw.1.at0 HID2.out.2 HXD2.out.2
                              have hcv2 := hSw.1.at1 HID2.out.2 HXD2.out.2
                              go_simp
                              try with_reducible rfl
                            try simp only [List.getElem_toArray, List.getElem_cons_zero, List.getElem_cons_succ, Act.put, List.setIfInBounds_toArray, List.set_cons_zero, List.set_cons_succ]
                            refine wpAnyH_ready (rs := [13]) (by kernel_rfl) (by simp) ?_
                            refine AllReadyH.cons rfl (fun K hK => ?_) AllReadyH.nil
                            go_simp
                            refine (ordCmp xD2 yD2 _).mono ?_
                            rintro e wD2 ⟨rfl, hbD2⟩
                            have HLD2 := Lib.hid ((M2.out.drewN 1).below hbD2 M2.out.lt)
                            have HBD2 := Lib.hid ((below_drewN N2.out 1).trans (hbD2.mono (Nat.le_trans hg (Nat.le_of_lt M2.out.lt))))
                            clear hbD2
                            refine hK.out _ _ ⟨HLD2.out, HBD2.out⟩ (fun _ => ?_)
                            clear hK K
                            try simp only [List.getElem_toArray, List.getElem_cons_zero, List.getElem_cons_succ, Act.put, List.setIfInBounds_toArray, List.set_cons_zero, List.set_cons_succ]
                            refine wpAnyH_take (i := 14) (v := ?_) rfl (by kernel_rfl) (by kernel_rfl) (by kernel_rfl) (fun _ _ _ h => h) (Or.inl ⟨by rfl, ?_⟩) ⟨HLD2.out, HBD2.out⟩ ?_
                            rotate_left
                            · intro wS hSw
                              go_simp
                              try with_reducible rfl
                            try simp only [List.getElem_toArray, List.getElem_cons_zero, List.getElem_cons_succ, Act.put, List.setIfInBounds_toArray, List.set_cons_zero, List.set_cons_succ]
                            refine wpAnyH_take (i := 15) (v := ?_) rfl (by kernel_rfl) (by kernel_rfl) (by kernel_rfl) (fun _ _ _ h => h) (Or.inl ⟨by rfl, ?_⟩) ⟨HLD2.out, HBD2.out⟩ ?_
                            rotate_left
                            · intro wS hSw
                              go_simp
                              try with_reducible rfl
                            try simp only [List.getElem_toArray, List.getElem_cons_zero, List.getElem_cons_succ, Act.put, List.setIfInBounds_toArray, List.set_cons_zero, List.set_cons_succ]
                            refine wpAnyH_take (i := 16) (v := ?_) rfl (by kernel_rfl) (by kernel_rfl) (by kernel_rfl) (fun _ _ _ h => h) (Or.inl ⟨by rfl, ?_⟩) ⟨HLD2.out, HBD2.out⟩ ?_
                            rotate_left
                            · intro wS hSw
                              go_simp
                              try with_reducible rfl
                            try simp only [List.getElem_toArray, List.getElem_cons_zero, List.getElem_cons_succ, Act.put, List.setIfInBounds_toArray, List.set_cons_zero, List.set_cons_succ]
                            refine wpAnyH_done (by kernel_rfl) ?_ _

                            go_wp2
                            go_roundw
                            case rel => exact ⟨q2 - 1, by go_num, by omega, E22, HLD2, HBD2⟩
                            case measure => first | (simp [Go.RowKit.intOf]; done) | (simp [Go.RowKit.intOf]; omega)
                          | true =>
                            have HV2 := Lib.hid (show (fun q x => ltS x q) d[p]! D2[q2]! = true by rw [← E2.out.piv]; simp [hcA])
                            obtain ⟨xD2, hxD2⟩ : ∃ x, x = D2[q2]! := ⟨_, rfl⟩
                            obtain ⟨yD2, hyD2⟩ : ∃ x, x = D2[a]! := ⟨_, rfl⟩
                            rw [← hxD2, ← hyD2] at hcA
                            have hiD2 : q2 < D2.size := by have := E2.out.hai; have := E2.out.hjb; have := ZD2.out; omega
                            have hjD2 : a < D2.size := by have := E2.out.hai; have := E2.out.hjb; have := ZD2.out; omega
                            have hvD2 : cfS xD2 yD2 < 0 := (cf_lt _ _).2 hcA
                            have hdD2 : decide (cfS xD2 yD2 < 0) = true := decide_eq_true hvD2
                            have HXD2 := Lib.hid (And.intro hxD2 hyD2)
                            have HID2 := Lib.hid (And.intro hiD2 hjD2)
                            have HCD2 := Lib.hid hcA
                            clear hxD2 hyD2 hiD2 hjD2 hcA
                            go_wp2
                            refine wp_region_held_drew (S := (fun wQq => Lies wQq g D2 ∧ Below B w wQq)) (by kernel_rfl) (⟨M2.out.drewN 1, below_drewN N2.out 1⟩) (fun _ => ?_)
                            refine wpAnyH_take (i := 0) (v := ?_) rfl (by kernel_rfl) (by kernel_rfl) (by kernel_rfl) (fun _ _ _ h => h) (Or.inl ⟨by rfl, ?_⟩) (⟨M2.out.drewN 1, below_drewN N2.out 1⟩) ?_
                            rotate_left
                            · intro wS hSw
                              go_simp
                              try with_reducible rfl
                            try simp only [List.getElem_toArray, List.getElem_cons_zero, List.getElem_cons_succ, Act.put, List.setIfInBounds_toArray, List.set_cons_zero, List.set_cons_succ]
                            refine wpAnyH_take (i := 1) (v := ?_) rfl (by kernel_rfl) (by kernel_rfl) (by kernel_rfl) (fun _ _ _ h => h) (Or.inl ⟨by rfl, ?_⟩) (⟨M2.out.drewN 1, below_drewN N2.out 1⟩) ?_
                            rotate_left
                            · intro wS hSw
                              go_simp
                              try with_reducible rfl
                            try simp only [List.getElem_toArray, List.getElem_cons_zero, List.getElem_cons_succ, Act.put, List.setIfInBounds_toArray, List.set_cons_zero, List.set_cons_succ]
                            refine wpAnyH_take (i := 2) (v := ?_) rfl (by kernel_rfl) (by kernel_rfl) (by kernel_rfl) (fun _ _ _ h => h) (Or.inl ⟨by rfl, ?_⟩) (⟨M2.out.drewN 1, below_drewN N2.out 1⟩) ?_
                            rotate_left
                            · intro wS hSw
                              go_simp
                              try with_reducible rfl
                            try simp only [List.getElem_toArray, List.getElem_cons_zero, List.getElem_cons_succ, Act.put, List.setIfInBounds_toArray, List.set_cons_zero, List.set_cons_succ]
                            refine wpAnyH_take (i := 3) (v := ?_) rfl (by kernel_rfl) (by kernel_rfl) (by kernel_rfl) (fun _ _ _ h => h) (Or.inl ⟨by rfl, ?_⟩) (⟨M2.out.drewN 1, below_drewN N2.out 1⟩) ?_
                            rotate_left
                            · intro wS hSw
                              go_simp
                              try with_reducible rfl
                            try simp only [List.getElem_toArray, List.getElem_cons_zero, List.getElem_cons_succ, Act.put, List.setIfInBounds_toArray, List.set_cons_zero, List.set_cons_succ]
                            refine wpAnyH_take (i := 4) (v := ?_) rfl (by kernel_rfl) (by kernel_rfl) (by kernel_rfl) (fun _ _ _ h => h) (Or.inl ⟨by rfl, ?_⟩) (⟨M2.out.drewN 1, below_drewN N2.out 1⟩) ?_
                            rotate_left
                            · intro wS hSw
                              go_simp
                              try with_reducible rfl
                            try simp only [List.getElem_toArray, List.getElem_cons_zero, List.getElem_cons_succ, Act.put, List.setIfInBounds_toArray, List.set_cons_zero, List.set_cons_succ]
                            refine wpAnyH_take (i := 5) (v := ?_) rfl (by kernel_rfl) (by kernel_rfl) (by kernel_rfl) (fun _ _ _ h => h) (Or.inl ⟨by rfl, ?_⟩) (⟨M2.out.drewN 1, below_drewN N2.out 1⟩) ?_
                            rotate_left
                            · intro wS hSw
                              go_simp
                              try with_reducible rfl
                            try simp only [List.getElem_toArray, List.getElem_cons_zero, List.getElem_cons_succ, Act.put, List.setIfInBounds_toArray, List.set_cons_zero, List.set_cons_succ]
                            refine wpAnyH_take (i := 6) (v := ?_) rfl (by kernel_rfl) (by kernel_rfl) (by kernel_rfl) (fun _ _ _ h => h) (Or.inl ⟨by rfl, ?_⟩) (⟨M2.out.drewN 1, below_drewN N2.out 1⟩) ?_
                            rotate_left
                            · intro wS hSw
                              go_simp
                              try with_reducible rfl
                            try simp only [List.getElem_toArray, List.getElem_cons_zero, List.getElem_cons_succ, Act.put, List.setIfInBounds_toArray, List.set_cons_zero, List.set_cons_succ]
                            refine wpAnyH_take (i := 7) (v := ?_) rfl (by kernel_rfl) (by kernel_rfl) (by kernel_rfl) (fun _ _ _ h => h) (Or.inl ⟨by rfl, ?_⟩) (⟨M2.out.drewN 1, below_drewN N2.out 1⟩) ?_
                            rotate_left
                            · intro wS hSw
                              go_simp
                              try with_reducible rfl
                            try simp only [List.getElem_toArray, List.getElem_cons_zero, List.getElem_cons_succ, Act.put, List.setIfInBounds_toArray, List.set_cons_zero, List.set_cons_succ]
                            refine wpAnyH_take (i := 9) (v := ?_) rfl (by kernel_rfl) (by kernel_rfl) (by kernel_rfl) (fun _ _ _ h => h) (Or.inl ⟨by rfl, ?_⟩) (⟨M2.out.drewN 1, below_drewN N2.out 1⟩) ?_
                            rotate_left
                            · intro wS hSw
                              go_simp
                              try with_reducible rfl
                            try simp only [List.getElem_toArray, List.getElem_cons_zero, List.getElem_cons_succ, Act.put, List.setIfInBounds_toArray, List.set_cons_zero, List.set_cons_succ]
                            refine wpAnyH_take (i := 10) (v := ?_) rfl (by kernel_rfl) (by kernel_rfl) (by kernel_rfl) (fun _ _ _ h => h) (Or.inl ⟨by rfl, ?_⟩) (⟨M2.out.drewN 1, below_drewN N2.out 1⟩) ?_
                            rotate_left
                            · intro wS hSw
                              go_simp
                              try with_reducible rfl
                            try simp only [List.getElem_toArray, List.getElem_cons_zero, List.getElem_cons_succ, Act.put, List.setIfInBounds_toArray, List.set_cons_zero, List.set_cons_succ]
                            refine wpAnyH_take (i := 11) (v := ?_) rfl (by kernel_rfl) (by kernel_rfl) (by kernel_rfl) (fun _ _ _ h => h) (Or.inl ⟨by rfl, ?_⟩) (⟨M2.out.drewN 1, below_drewN N2.out 1⟩) ?_
                            rotate_left
                            · intro wS hSw
                              go_simp
                              try with_reducible rfl
                            try simp only [List.getElem_toArray, List.getElem_cons_zero, List.getElem_cons_succ, Act.put, List.setIfInBounds_toArray, List.set_cons_zero, List.set_cons_succ]
                            refine wpAnyH_take (i := 8) (v := ?_) rfl (by kernel_rfl) (by kernel_rfl) (by kernel_rfl) (fun _ _ _ h => h) (Or.inl ⟨by rfl, ?_⟩) (⟨M2.out.drewN 1, below_drewN N2.out 1⟩) ?_
                            rotate_left
                            · intro wS hSw
                              have hcv := hSw.1.at0 HID2.out.1 HXD2.out.1
                              have hcv2 := hSw.1.at1 HID2.out.1 HXD2.out.1
                              go_simp
                              try with_reducible rfl
                            try simp only [List.getElem_toArray, List.getElem_cons_zero, List.getElem_cons_succ, Act.put, List.setIfInBounds_toArray, List.set_cons_zero, List.set_cons_succ]
                            refine wpAnyH_take (i := 12) (v := ?_) rfl (by kernel_rfl) (by kernel_rfl) (by kernel_rfl) (fun _ _ _ h => h) (Or.inl ⟨by rfl, ?_⟩) (⟨M2.out.drewN 1, below_drewN N2.out 1⟩) ?_
                            rotate_left
                            · intro wS hSw
                              have hcv := hSw.1.at0 HID2.out.2 HXD2.out.2
                              have hcv2 := hSw.1.at1 HID2.out.2 HXD2.out.2
                              go_simp
                              try with_reducible rfl
                            try simp only [List.getElem_toArray, List.getElem_cons_zero, List.getElem_cons_succ, Act.put, List.setIfInBounds_toArray, List.set_cons_zero, List.set_cons_succ]
                            refine wpAnyH_ready (rs := [13]) (by kernel_rfl) (by simp) ?_
                            refine AllReadyH.cons rfl (fun K hK => ?_) AllReadyH.nil
                            go_simp
                            refine (ordCmp xD2 yD2 _).mono ?_
                            rintro e wD2 ⟨rfl, hbD2⟩
                            have HLD2 := Lib.hid ((M2.out.drewN 1).below hbD2 M2.out.lt)
                            have HBD2 := Lib.hid ((below_drewN N2.out 1).trans (hbD2.mono (Nat.le_trans hg (Nat.le_of_lt M2.out.lt))))
                            clear hbD2
                            refine hK.out _ _ ⟨HLD2.out, HBD2.out⟩ (fun _ => ?_)
                            clear hK K
                            try simp only [List.getElem_toArray, List.getElem_cons_zero, List.getElem_cons_succ, Act.put, List.setIfInBounds_toArray, List.set_cons_zero, List.set_cons_succ]
                            refine wpAnyH_take (i := 14) (v := ?_) rfl (by kernel_rfl) (by kernel_rfl) (by kernel_rfl) (fun _ _ _ h => h) (Or.inl ⟨by rfl, ?_⟩) ⟨HLD2.out, HBD2.out⟩ ?_
                            rotate_left
                            · intro wS hSw
                              go_simp
                              try with_reducible rfl
                            try simp only [List.getElem_toArray, List.getElem_cons_zero, List.getElem_cons_succ, Act.put, List.setIfInBounds_toArray, List.set_cons_zero, List.set_cons_succ]
                            refine wpAnyH_take (i := 15) (v := ?_) rfl (by kernel_rfl) (by kernel_rfl) (by kernel_rfl) (fun _ _ _ h => h) (Or.inl ⟨by rfl, ?_⟩) ⟨HLD2.out, HBD2.out⟩ ?_
                            rotate_left
                            · intro wS hSw
                              go_simp
                              try with_reducible rfl
                            try simp only [List.getElem_toArray, List.getElem_cons_zero, List.getElem_cons_succ, Act.put, List.setIfInBounds_toArray, List.set_cons_zero, List.set_cons_succ]
                            refine wpAnyH_take (i := 16) (v := ?_) rfl (by kernel_rfl) (by kernel_rfl) (by kernel_rfl) (fun _ _ _ h => h) (Or.inl ⟨by rfl, ?_⟩) ⟨HLD2.out, HBD2.out⟩ ?_
                            rotate_left
                            · intro wS hSw
                              go_simp
                              try with_reducible rfl
                            try simp only [List.getElem_toArray, List.getElem_cons_zero, List.getElem_cons_succ, Act.put, List.setIfInBounds_toArray, List.set_cons_zero, List.set_cons_succ]
                            refine wpAnyH_done (by kernel_rfl) ?_ _

                            have hlt2 : i2 < q2 := by
                              rcases Nat.lt_or_ge i2 q2 with h | h
                              · exact h
                              · have e : i2 = q2 := by omega
                                have h1 := HV2.out
                                rw [← e] at h1
                                have h2 := HN2.out
                                rw [h1] at h2
                                exact absurd h2 (by decide)
                            have hltz2 : ¬ (q2 : Int) < (i2 : Int) := by omega
                            have C92 := Lib.hid (E2.out.swap hlt2 HN2.out HV2.out)
                            go_wp2
                            obtain ⟨pW, hpW⟩ : ∃ x, x = D2[i2]! := ⟨_, rfl⟩
                            obtain ⟨qW, hqW⟩ : ∃ x, x = D2[q2]! := ⟨_, rfl⟩
                            have hSW := HLD2.out.swap (i := i2) (j := q2) (by have := E2.out.hai; have := E2.out.hjb; have := E2.out.hij; have := ZD2.out; omega) (by have := E2.out.hai; have := E2.out.hjb; have := E2.out.hij; have := ZD2.out; omega)
                            rw [← hpW, ← hqW] at hSW
                            have HSW := Lib.hid hSW
                            have HTW := Lib.hid (below4 HBD2.out hg ((i2) * 2) ((i2) * 2 + 1) ((q2) * 2) ((q2) * 2 + 1) (.string qW.1) (.string qW.2) (.string pW.1) (.string pW.2))
                            have l0W := HLD2.out.at0 (i := i2) (by have := E2.out.hai; have := E2.out.hjb; have := E2.out.hij; have := ZD2.out; omega) hpW
                            have l1W := HLD2.out.at1 (i := i2) (by have := E2.out.hai; have := E2.out.hjb; have := E2.out.hij; have := ZD2.out; omega) hpW
                            have l2W := HLD2.out.at0 (i := q2) (by have := E2.out.hai; have := E2.out.hjb; have := E2.out.hij; have := ZD2.out; omega) hqW
                            have l3W := HLD2.out.at1 (i := q2) (by have := E2.out.hai; have := E2.out.hjb; have := E2.out.hij; have := ZD2.out; omega) hqW
                            have f0W := HLD2.out.fr ((i2) * 2)
                            have f1W := HLD2.out.fr ((i2) * 2 + 1)
                            have f2W := HLD2.out.fr ((q2) * 2)
                            have f3W := HLD2.out.fr ((q2) * 2 + 1)
                            obtain ⟨v2W, m2W⟩ := HLD2.out.ex ((q2) * 2) ((i2) * 2) (.string qW.1) (by have hjz : q2 < D2.size := (by have := E2.out.hai; have := E2.out.hjb; have := E2.out.hij; have := ZD2.out; omega); omega)
                            obtain ⟨v3W, m3W⟩ := HLD2.out.ex2 ((q2) * 2 + 1) ((i2) * 2) ((i2) * 2 + 1) (.string qW.1) (.string qW.2) (by have hjz : q2 < D2.size := (by have := E2.out.hai; have := E2.out.hjb; have := E2.out.hij; have := ZD2.out; omega); omega)
                            clear hpW hqW hSW

                            go_region
                            all_goals (try go_wp2)
                            go_roundw
                            case rel => exact ⟨i2 + 1, q2 - 1, _, by go_num, by go_num, Lib.hid (by rw [Go.Sort.size_swp]; exact ZD2.out), C92, Lib.hid (HSW.out.drewN 1), Lib.hid (below_drewN HTW.out 1)⟩
                            case measure => first | (simp [Go.RowKit.intOf]; done) | (simp [Go.RowKit.intOf]; omega)

                        · have hlqz2 : ¬ (i2 : Int) ≤ (q2 : Int) := by omega
                          have hlqw2 : (q2 : Int) < (i2 : Int) := by omega
                          go_wp2
                          refine wp_region_held_drew (S := (fun _ => True)) (by kernel_rfl) trivial (fun _ => ?_)
                          refine wpAnyH_take (i := 0) (v := ?_) rfl (by kernel_rfl) (by kernel_rfl) (by kernel_rfl) (fun _ _ _ h => h) (Or.inl ⟨by rfl, ?_⟩) trivial ?_
                          rotate_left
                          · intro wS hSw
                            go_simp
                            try with_reducible rfl
                          try simp only [List.getElem_toArray, List.getElem_cons_zero, List.getElem_cons_succ, Act.put, List.setIfInBounds_toArray, List.set_cons_zero, List.set_cons_succ]
                          refine wpAnyH_take (i := 1) (v := ?_) rfl (by kernel_rfl) (by kernel_rfl) (by kernel_rfl) (fun _ _ _ h => h) (Or.inl ⟨by rfl, ?_⟩) trivial ?_
                          rotate_left
                          · intro wS hSw
                            go_simp
                            try with_reducible rfl
                          try simp only [List.getElem_toArray, List.getElem_cons_zero, List.getElem_cons_succ, Act.put, List.setIfInBounds_toArray, List.set_cons_zero, List.set_cons_succ]
                          refine wpAnyH_take (i := 2) (v := ?_) rfl (by kernel_rfl) (by kernel_rfl) (by kernel_rfl) (fun _ _ _ h => h) (Or.inl ⟨by rfl, ?_⟩) trivial ?_
                          rotate_left
                          · intro wS hSw
                            go_simp
                            try with_reducible rfl
                          try simp only [List.getElem_toArray, List.getElem_cons_zero, List.getElem_cons_succ, Act.put, List.setIfInBounds_toArray, List.set_cons_zero, List.set_cons_succ]
                          refine wpAnyH_take (i := 3) (v := ?_) rfl (by kernel_rfl) (by kernel_rfl) (by kernel_rfl) (fun _ _ _ h => h) (Or.inl ⟨by rfl, ?_⟩) trivial ?_
                          rotate_left
                          · intro wS hSw
                            go_simp
                            try with_reducible rfl
                          try simp only [List.getElem_toArray, List.getElem_cons_zero, List.getElem_cons_succ, Act.put, List.setIfInBounds_toArray, List.set_cons_zero, List.set_cons_succ]
                          refine wpAnyH_take (i := 4) (v := undef) rfl (by kernel_rfl) (by kernel_rfl) (by kernel_rfl) (fun _ _ _ h => h) (Or.inr ⟨by rfl, rfl⟩) trivial ?_
                          try simp only [List.getElem_toArray, List.getElem_cons_zero, List.getElem_cons_succ, Act.put, List.setIfInBounds_toArray, List.set_cons_zero, List.set_cons_succ]
                          refine wpAnyH_take (i := 5) (v := undef) rfl (by kernel_rfl) (by kernel_rfl) (by kernel_rfl) (fun _ _ _ h => h) (Or.inr ⟨by rfl, rfl⟩) trivial ?_
                          try simp only [List.getElem_toArray, List.getElem_cons_zero, List.getElem_cons_succ, Act.put, List.setIfInBounds_toArray, List.set_cons_zero, List.set_cons_succ]
                          refine wpAnyH_take (i := 6) (v := undef) rfl (by kernel_rfl) (by kernel_rfl) (by kernel_rfl) (fun _ _ _ h => h) (Or.inr ⟨by rfl, rfl⟩) trivial ?_
                          try simp only [List.getElem_toArray, List.getElem_cons_zero, List.getElem_cons_succ, Act.put, List.setIfInBounds_toArray, List.set_cons_zero, List.set_cons_succ]
                          refine wpAnyH_take (i := 7) (v := undef) rfl (by kernel_rfl) (by kernel_rfl) (by kernel_rfl) (fun _ _ _ h => h) (Or.inr ⟨by rfl, rfl⟩) trivial ?_
                          try simp only [List.getElem_toArray, List.getElem_cons_zero, List.getElem_cons_succ, Act.put, List.setIfInBounds_toArray, List.set_cons_zero, List.set_cons_succ]
                          refine wpAnyH_take (i := 8) (v := undef) rfl (by kernel_rfl) (by kernel_rfl) (by kernel_rfl) (fun _ _ _ h => h) (Or.inr ⟨by rfl, rfl⟩) trivial ?_
                          try simp only [List.getElem_toArray, List.getElem_cons_zero, List.getElem_cons_succ, Act.put, List.setIfInBounds_toArray, List.set_cons_zero, List.set_cons_succ]
                          refine wpAnyH_take (i := 9) (v := undef) rfl (by kernel_rfl) (by kernel_rfl) (by kernel_rfl) (fun _ _ _ h => h) (Or.inr ⟨by rfl, rfl⟩) trivial ?_
                          try simp only [List.getElem_toArray, List.getElem_cons_zero, List.getElem_cons_succ, Act.put, List.setIfInBounds_toArray, List.set_cons_zero, List.set_cons_succ]
                          refine wpAnyH_take (i := 10) (v := undef) rfl (by kernel_rfl) (by kernel_rfl) (by kernel_rfl) (fun _ _ _ h => h) (Or.inr ⟨by rfl, rfl⟩) trivial ?_
                          try simp only [List.getElem_toArray, List.getElem_cons_zero, List.getElem_cons_succ, Act.put, List.setIfInBounds_toArray, List.set_cons_zero, List.set_cons_succ]
                          refine wpAnyH_take (i := 11) (v := undef) rfl (by kernel_rfl) (by kernel_rfl) (by kernel_rfl) (fun _ _ _ h => h) (Or.inr ⟨by rfl, rfl⟩) trivial ?_
                          try simp only [List.getElem_toArray, List.getElem_cons_zero, List.getElem_cons_succ, Act.put, List.setIfInBounds_toArray, List.set_cons_zero, List.set_cons_succ]
                          refine wpAnyH_take (i := 12) (v := undef) rfl (by kernel_rfl) (by kernel_rfl) (by kernel_rfl) (fun _ _ _ h => h) (Or.inr ⟨by rfl, rfl⟩) trivial ?_
                          try simp only [List.getElem_toArray, List.getElem_cons_zero, List.getElem_cons_succ, Act.put, List.setIfInBounds_toArray, List.set_cons_zero, List.set_cons_succ]
                          refine wpAnyH_take (i := 13) (v := undef) rfl (by kernel_rfl) (by kernel_rfl) (by kernel_rfl) (fun _ _ _ h => h) (Or.inr ⟨by rfl, rfl⟩) trivial ?_
                          try simp only [List.getElem_toArray, List.getElem_cons_zero, List.getElem_cons_succ, Act.put, List.setIfInBounds_toArray, List.set_cons_zero, List.set_cons_succ]
                          refine wpAnyH_take (i := 14) (v := undef) rfl (by kernel_rfl) (by kernel_rfl) (by kernel_rfl) (fun _ _ _ h => h) (Or.inr ⟨by rfl, rfl⟩) trivial ?_
                          try simp only [List.getElem_toArray, List.getElem_cons_zero, List.getElem_cons_succ, Act.put, List.setIfInBounds_toArray, List.set_cons_zero, List.set_cons_succ]
                          refine wpAnyH_take (i := 15) (v := undef) rfl (by kernel_rfl) (by kernel_rfl) (by kernel_rfl) (fun _ _ _ h => h) (Or.inr ⟨by rfl, rfl⟩) trivial ?_
                          try simp only [List.getElem_toArray, List.getElem_cons_zero, List.getElem_cons_succ, Act.put, List.setIfInBounds_toArray, List.set_cons_zero, List.set_cons_succ]
                          refine wpAnyH_take (i := 16) (v := ?_) rfl (by kernel_rfl) (by kernel_rfl) (by kernel_rfl) (fun _ _ _ h => h) (Or.inl ⟨by rfl, ?_⟩) trivial ?_
                          rotate_left
                          · intro wS hSw
                            go_simp
                            try with_reducible rfl
                          try simp only [List.getElem_toArray, List.getElem_cons_zero, List.getElem_cons_succ, Act.put, List.setIfInBounds_toArray, List.set_cons_zero, List.set_cons_succ]
                          refine wpAnyH_done (by kernel_rfl) ?_ _

                          go_wp2
                          have hqz : (q2 : Int) < (n : Int) := by omega
                          obtain ⟨pF, hpF⟩ : ∃ x, x = D2[q2]! := ⟨_, rfl⟩
                          obtain ⟨qF, hqF⟩ : ∃ x, x = D2[a]! := ⟨_, rfl⟩
                          have hSF := M2.out.swap (i := q2) (j := a) (by have := E2.out.hai; have := E2.out.hjb; have := E2.out.hij; have := ZD2.out; omega) (by have := E2.out.hai; have := E2.out.hjb; have := E2.out.hij; have := ZD2.out; omega)
                          rw [← hpF, ← hqF] at hSF
                          have HSF := Lib.hid hSF
                          have HTF := Lib.hid (below4 N2.out hg ((q2) * 2) ((q2) * 2 + 1) ((a) * 2) ((a) * 2 + 1) (.string qF.1) (.string qF.2) (.string pF.1) (.string pF.2))
                          have l0F := M2.out.at0 (i := q2) (by have := E2.out.hai; have := E2.out.hjb; have := E2.out.hij; have := ZD2.out; omega) hpF
                          have l1F := M2.out.at1 (i := q2) (by have := E2.out.hai; have := E2.out.hjb; have := E2.out.hij; have := ZD2.out; omega) hpF
                          have l2F := M2.out.at0 (i := a) (by have := E2.out.hai; have := E2.out.hjb; have := E2.out.hij; have := ZD2.out; omega) hqF
                          have l3F := M2.out.at1 (i := a) (by have := E2.out.hai; have := E2.out.hjb; have := E2.out.hij; have := ZD2.out; omega) hqF
                          have f0F := M2.out.fr ((q2) * 2)
                          have f1F := M2.out.fr ((q2) * 2 + 1)
                          have f2F := M2.out.fr ((a) * 2)
                          have f3F := M2.out.fr ((a) * 2 + 1)
                          obtain ⟨v2F, m2F⟩ := M2.out.ex ((a) * 2) ((q2) * 2) (.string qF.1) (by have hjz : a < D2.size := (by have := E2.out.hai; have := E2.out.hjb; have := E2.out.hij; have := ZD2.out; omega); omega)
                          obtain ⟨v3F, m3F⟩ := M2.out.ex2 ((a) * 2 + 1) ((q2) * 2) ((q2) * 2 + 1) (.string qF.1) (.string qF.2) (by have hjz : a < D2.size := (by have := E2.out.hai; have := E2.out.hjb; have := E2.out.hij; have := ZD2.out; omega); omega)
                          clear hpF hqF hSF
                          go_region
                          all_goals (try go_wp2)
                          go_ret2
                          first
                            | exact ⟨q2, false, _, rfl, HSF.out.drewN 2, (E2.out.done ltS_swo (by omega)).1, (E2.out.done ltS_swo (by omega)).2, below_drewN HTF.out 2⟩
                            | exact ⟨q2, false, _, rfl, HSF.out.drewN 3, (E2.out.done ltS_swo (by omega)).1, (E2.out.done ltS_swo (by omega)).2, below_drewN HTF.out 3⟩

                  · have hlez2 : ¬ (i2 : Int) ≤ (J2 : Int) := by omega
                    have hlew2 : (J2 : Int) < (i2 : Int) := by omega
                    go_wp2
                    refine wp_region_held_drew (S := (fun _ => True)) (by kernel_rfl) trivial (fun _ => ?_)
                    refine wpAnyH_take (i := 0) (v := ?_) rfl (by kernel_rfl) (by kernel_rfl) (by kernel_rfl) (fun _ _ _ h => h) (Or.inl ⟨by rfl, ?_⟩) trivial ?_
                    rotate_left
                    · intro wS hSw
                      go_simp
                      try with_reducible rfl
                    try simp only [List.getElem_toArray, List.getElem_cons_zero, List.getElem_cons_succ, Act.put, List.setIfInBounds_toArray, List.set_cons_zero, List.set_cons_succ]
                    refine wpAnyH_take (i := 1) (v := ?_) rfl (by kernel_rfl) (by kernel_rfl) (by kernel_rfl) (fun _ _ _ h => h) (Or.inl ⟨by rfl, ?_⟩) trivial ?_
                    rotate_left
                    · intro wS hSw
                      go_simp
                      try with_reducible rfl
                    try simp only [List.getElem_toArray, List.getElem_cons_zero, List.getElem_cons_succ, Act.put, List.setIfInBounds_toArray, List.set_cons_zero, List.set_cons_succ]
                    refine wpAnyH_take (i := 2) (v := ?_) rfl (by kernel_rfl) (by kernel_rfl) (by kernel_rfl) (fun _ _ _ h => h) (Or.inl ⟨by rfl, ?_⟩) trivial ?_
                    rotate_left
                    · intro wS hSw
                      go_simp
                      try with_reducible rfl
                    try simp only [List.getElem_toArray, List.getElem_cons_zero, List.getElem_cons_succ, Act.put, List.setIfInBounds_toArray, List.set_cons_zero, List.set_cons_succ]
                    refine wpAnyH_take (i := 3) (v := ?_) rfl (by kernel_rfl) (by kernel_rfl) (by kernel_rfl) (fun _ _ _ h => h) (Or.inl ⟨by rfl, ?_⟩) trivial ?_
                    rotate_left
                    · intro wS hSw
                      go_simp
                      try with_reducible rfl
                    try simp only [List.getElem_toArray, List.getElem_cons_zero, List.getElem_cons_succ, Act.put, List.setIfInBounds_toArray, List.set_cons_zero, List.set_cons_succ]
                    refine wpAnyH_take (i := 4) (v := undef) rfl (by kernel_rfl) (by kernel_rfl) (by kernel_rfl) (fun _ _ _ h => h) (Or.inr ⟨by rfl, rfl⟩) trivial ?_
                    try simp only [List.getElem_toArray, List.getElem_cons_zero, List.getElem_cons_succ, Act.put, List.setIfInBounds_toArray, List.set_cons_zero, List.set_cons_succ]
                    refine wpAnyH_take (i := 5) (v := undef) rfl (by kernel_rfl) (by kernel_rfl) (by kernel_rfl) (fun _ _ _ h => h) (Or.inr ⟨by rfl, rfl⟩) trivial ?_
                    try simp only [List.getElem_toArray, List.getElem_cons_zero, List.getElem_cons_succ, Act.put, List.setIfInBounds_toArray, List.set_cons_zero, List.set_cons_succ]
                    refine wpAnyH_take (i := 6) (v := undef) rfl (by kernel_rfl) (by kernel_rfl) (by kernel_rfl) (fun _ _ _ h => h) (Or.inr ⟨by rfl, rfl⟩) trivial ?_
                    try simp only [List.getElem_toArray, List.getElem_cons_zero, List.getElem_cons_succ, Act.put, List.setIfInBounds_toArray, List.set_cons_zero, List.set_cons_succ]
                    refine wpAnyH_take (i := 7) (v := undef) rfl (by kernel_rfl) (by kernel_rfl) (by kernel_rfl) (fun _ _ _ h => h) (Or.inr ⟨by rfl, rfl⟩) trivial ?_
                    try simp only [List.getElem_toArray, List.getElem_cons_zero, List.getElem_cons_succ, Act.put, List.setIfInBounds_toArray, List.set_cons_zero, List.set_cons_succ]
                    refine wpAnyH_take (i := 8) (v := undef) rfl (by kernel_rfl) (by kernel_rfl) (by kernel_rfl) (fun _ _ _ h => h) (Or.inr ⟨by rfl, rfl⟩) trivial ?_
                    try simp only [List.getElem_toArray, List.getElem_cons_zero, List.getElem_cons_succ, Act.put, List.setIfInBounds_toArray, List.set_cons_zero, List.set_cons_succ]
                    refine wpAnyH_take (i := 9) (v := undef) rfl (by kernel_rfl) (by kernel_rfl) (by kernel_rfl) (fun _ _ _ h => h) (Or.inr ⟨by rfl, rfl⟩) trivial ?_
                    try simp only [List.getElem_toArray, List.getElem_cons_zero, List.getElem_cons_succ, Act.put, List.setIfInBounds_toArray, List.set_cons_zero, List.set_cons_succ]
                    refine wpAnyH_take (i := 10) (v := undef) rfl (by kernel_rfl) (by kernel_rfl) (by kernel_rfl) (fun _ _ _ h => h) (Or.inr ⟨by rfl, rfl⟩) trivial ?_
                    try simp only [List.getElem_toArray, List.getElem_cons_zero, List.getElem_cons_succ, Act.put, List.setIfInBounds_toArray, List.set_cons_zero, List.set_cons_succ]
                    refine wpAnyH_take (i := 11) (v := undef) rfl (by kernel_rfl) (by kernel_rfl) (by kernel_rfl) (fun _ _ _ h => h) (Or.inr ⟨by rfl, rfl⟩) trivial ?_
                    try simp only [List.getElem_toArray, List.getElem_cons_zero, List.getElem_cons_succ, Act.put, List.setIfInBounds_toArray, List.set_cons_zero, List.set_cons_succ]
                    refine wpAnyH_take (i := 12) (v := undef) rfl (by kernel_rfl) (by kernel_rfl) (by kernel_rfl) (fun _ _ _ h => h) (Or.inr ⟨by rfl, rfl⟩) trivial ?_
                    try simp only [List.getElem_toArray, List.getElem_cons_zero, List.getElem_cons_succ, Act.put, List.setIfInBounds_toArray, List.set_cons_zero, List.set_cons_succ]
                    refine wpAnyH_take (i := 13) (v := undef) rfl (by kernel_rfl) (by kernel_rfl) (by kernel_rfl) (fun _ _ _ h => h) (Or.inr ⟨by rfl, rfl⟩) trivial ?_
                    try simp only [List.getElem_toArray, List.getElem_cons_zero, List.getElem_cons_succ, Act.put, List.setIfInBounds_toArray, List.set_cons_zero, List.set_cons_succ]
                    refine wpAnyH_take (i := 14) (v := undef) rfl (by kernel_rfl) (by kernel_rfl) (by kernel_rfl) (fun _ _ _ h => h) (Or.inr ⟨by rfl, rfl⟩) trivial ?_
                    try simp only [List.getElem_toArray, List.getElem_cons_zero, List.getElem_cons_succ, Act.put, List.setIfInBounds_toArray, List.set_cons_zero, List.set_cons_succ]
                    refine wpAnyH_take (i := 15) (v := ?_) rfl (by kernel_rfl) (by kernel_rfl) (by kernel_rfl) (fun _ _ _ h => h) (Or.inl ⟨by rfl, ?_⟩) trivial ?_
                    rotate_left
                    · intro wS hSw
                      go_simp
                      try with_reducible rfl
                    try simp only [List.getElem_toArray, List.getElem_cons_zero, List.getElem_cons_succ, Act.put, List.setIfInBounds_toArray, List.set_cons_zero, List.set_cons_succ]
                    refine wpAnyH_done (by kernel_rfl) ?_ _

                    go_wp2
                    refine wp_loop_once ?_
                    go_wp2
                    refine wp_region_held_drew (S := (fun _ => True)) (by kernel_rfl) trivial (fun _ => ?_)
                    refine wpAnyH_take (i := 0) (v := ?_) rfl (by kernel_rfl) (by kernel_rfl) (by kernel_rfl) (fun _ _ _ h => h) (Or.inl ⟨by rfl, ?_⟩) trivial ?_
                    rotate_left
                    · intro wS hSw
                      go_simp
                      try with_reducible rfl
                    try simp only [List.getElem_toArray, List.getElem_cons_zero, List.getElem_cons_succ, Act.put, List.setIfInBounds_toArray, List.set_cons_zero, List.set_cons_succ]
                    refine wpAnyH_take (i := 1) (v := ?_) rfl (by kernel_rfl) (by kernel_rfl) (by kernel_rfl) (fun _ _ _ h => h) (Or.inl ⟨by rfl, ?_⟩) trivial ?_
                    rotate_left
                    · intro wS hSw
                      go_simp
                      try with_reducible rfl
                    try simp only [List.getElem_toArray, List.getElem_cons_zero, List.getElem_cons_succ, Act.put, List.setIfInBounds_toArray, List.set_cons_zero, List.set_cons_succ]
                    refine wpAnyH_take (i := 2) (v := ?_) rfl (by kernel_rfl) (by kernel_rfl) (by kernel_rfl) (fun _ _ _ h => h) (Or.inl ⟨by rfl, ?_⟩) trivial ?_
                    rotate_left
                    · intro wS hSw
                      go_simp
                      try with_reducible rfl
                    try simp only [List.getElem_toArray, List.getElem_cons_zero, List.getElem_cons_succ, Act.put, List.setIfInBounds_toArray, List.set_cons_zero, List.set_cons_succ]
                    refine wpAnyH_take (i := 3) (v := ?_) rfl (by kernel_rfl) (by kernel_rfl) (by kernel_rfl) (fun _ _ _ h => h) (Or.inl ⟨by rfl, ?_⟩) trivial ?_
                    rotate_left
                    · intro wS hSw
                      go_simp
                      try with_reducible rfl
                    try simp only [List.getElem_toArray, List.getElem_cons_zero, List.getElem_cons_succ, Act.put, List.setIfInBounds_toArray, List.set_cons_zero, List.set_cons_succ]
                    refine wpAnyH_take (i := 4) (v := undef) rfl (by kernel_rfl) (by kernel_rfl) (by kernel_rfl) (fun _ _ _ h => h) (Or.inr ⟨by rfl, rfl⟩) trivial ?_
                    try simp only [List.getElem_toArray, List.getElem_cons_zero, List.getElem_cons_succ, Act.put, List.setIfInBounds_toArray, List.set_cons_zero, List.set_cons_succ]
                    refine wpAnyH_take (i := 5) (v := undef) rfl (by kernel_rfl) (by kernel_rfl) (by kernel_rfl) (fun _ _ _ h => h) (Or.inr ⟨by rfl, rfl⟩) trivial ?_
                    try simp only [List.getElem_toArray, List.getElem_cons_zero, List.getElem_cons_succ, Act.put, List.setIfInBounds_toArray, List.set_cons_zero, List.set_cons_succ]
                    refine wpAnyH_take (i := 6) (v := undef) rfl (by kernel_rfl) (by kernel_rfl) (by kernel_rfl) (fun _ _ _ h => h) (Or.inr ⟨by rfl, rfl⟩) trivial ?_
                    try simp only [List.getElem_toArray, List.getElem_cons_zero, List.getElem_cons_succ, Act.put, List.setIfInBounds_toArray, List.set_cons_zero, List.set_cons_succ]
                    refine wpAnyH_take (i := 7) (v := undef) rfl (by kernel_rfl) (by kernel_rfl) (by kernel_rfl) (fun _ _ _ h => h) (Or.inr ⟨by rfl, rfl⟩) trivial ?_
                    try simp only [List.getElem_toArray, List.getElem_cons_zero, List.getElem_cons_succ, Act.put, List.setIfInBounds_toArray, List.set_cons_zero, List.set_cons_succ]
                    refine wpAnyH_take (i := 8) (v := undef) rfl (by kernel_rfl) (by kernel_rfl) (by kernel_rfl) (fun _ _ _ h => h) (Or.inr ⟨by rfl, rfl⟩) trivial ?_
                    try simp only [List.getElem_toArray, List.getElem_cons_zero, List.getElem_cons_succ, Act.put, List.setIfInBounds_toArray, List.set_cons_zero, List.set_cons_succ]
                    refine wpAnyH_take (i := 9) (v := undef) rfl (by kernel_rfl) (by kernel_rfl) (by kernel_rfl) (fun _ _ _ h => h) (Or.inr ⟨by rfl, rfl⟩) trivial ?_
                    try simp only [List.getElem_toArray, List.getElem_cons_zero, List.getElem_cons_succ, Act.put, List.setIfInBounds_toArray, List.set_cons_zero, List.set_cons_succ]
                    refine wpAnyH_take (i := 10) (v := undef) rfl (by kernel_rfl) (by kernel_rfl) (by kernel_rfl) (fun _ _ _ h => h) (Or.inr ⟨by rfl, rfl⟩) trivial ?_
                    try simp only [List.getElem_toArray, List.getElem_cons_zero, List.getElem_cons_succ, Act.put, List.setIfInBounds_toArray, List.set_cons_zero, List.set_cons_succ]
                    refine wpAnyH_take (i := 11) (v := undef) rfl (by kernel_rfl) (by kernel_rfl) (by kernel_rfl) (fun _ _ _ h => h) (Or.inr ⟨by rfl, rfl⟩) trivial ?_
                    try simp only [List.getElem_toArray, List.getElem_cons_zero, List.getElem_cons_succ, Act.put, List.setIfInBounds_toArray, List.set_cons_zero, List.set_cons_succ]
                    refine wpAnyH_take (i := 12) (v := undef) rfl (by kernel_rfl) (by kernel_rfl) (by kernel_rfl) (fun _ _ _ h => h) (Or.inr ⟨by rfl, rfl⟩) trivial ?_
                    try simp only [List.getElem_toArray, List.getElem_cons_zero, List.getElem_cons_succ, Act.put, List.setIfInBounds_toArray, List.set_cons_zero, List.set_cons_succ]
                    refine wpAnyH_take (i := 13) (v := undef) rfl (by kernel_rfl) (by kernel_rfl) (by kernel_rfl) (fun _ _ _ h => h) (Or.inr ⟨by rfl, rfl⟩) trivial ?_
                    try simp only [List.getElem_toArray, List.getElem_cons_zero, List.getElem_cons_succ, Act.put, List.setIfInBounds_toArray, List.set_cons_zero, List.set_cons_succ]
                    refine wpAnyH_take (i := 14) (v := undef) rfl (by kernel_rfl) (by kernel_rfl) (by kernel_rfl) (fun _ _ _ h => h) (Or.inr ⟨by rfl, rfl⟩) trivial ?_
                    try simp only [List.getElem_toArray, List.getElem_cons_zero, List.getElem_cons_succ, Act.put, List.setIfInBounds_toArray, List.set_cons_zero, List.set_cons_succ]
                    refine wpAnyH_take (i := 15) (v := undef) rfl (by kernel_rfl) (by kernel_rfl) (by kernel_rfl) (fun _ _ _ h => h) (Or.inr ⟨by rfl, rfl⟩) trivial ?_
                    try simp only [List.getElem_toArray, List.getElem_cons_zero, List.getElem_cons_succ, Act.put, List.setIfInBounds_toArray, List.set_cons_zero, List.set_cons_succ]
                    refine wpAnyH_take (i := 16) (v := ?_) rfl (by kernel_rfl) (by kernel_rfl) (by kernel_rfl) (fun _ _ _ h => h) (Or.inl ⟨by rfl, ?_⟩) trivial ?_
                    rotate_left
                    · intro wS hSw
                      go_simp
                      try with_reducible rfl
                    try simp only [List.getElem_toArray, List.getElem_cons_zero, List.getElem_cons_succ, Act.put, List.setIfInBounds_toArray, List.set_cons_zero, List.set_cons_succ]
                    refine wpAnyH_done (by kernel_rfl) ?_ _

                    go_wp2
                    have hqz : (J2 : Int) < (n : Int) := by omega
                    obtain ⟨pF, hpF⟩ : ∃ x, x = D2[J2]! := ⟨_, rfl⟩
                    obtain ⟨qF, hqF⟩ : ∃ x, x = D2[a]! := ⟨_, rfl⟩
                    have hSF := L2.out.swap (i := J2) (j := a) (by have := C2.out.hai; have := C2.out.hjb; have := C2.out.hij; have := ZD2.out; omega) (by have := C2.out.hai; have := C2.out.hjb; have := C2.out.hij; have := ZD2.out; omega)
                    rw [← hpF, ← hqF] at hSF
                    have HSF := Lib.hid hSF
                    have HTF := Lib.hid (below4 B2.out hg ((J2) * 2) ((J2) * 2 + 1) ((a) * 2) ((a) * 2 + 1) (.string qF.1) (.string qF.2) (.string pF.1) (.string pF.2))
                    have l0F := L2.out.at0 (i := J2) (by have := C2.out.hai; have := C2.out.hjb; have := C2.out.hij; have := ZD2.out; omega) hpF
                    have l1F := L2.out.at1 (i := J2) (by have := C2.out.hai; have := C2.out.hjb; have := C2.out.hij; have := ZD2.out; omega) hpF
                    have l2F := L2.out.at0 (i := a) (by have := C2.out.hai; have := C2.out.hjb; have := C2.out.hij; have := ZD2.out; omega) hqF
                    have l3F := L2.out.at1 (i := a) (by have := C2.out.hai; have := C2.out.hjb; have := C2.out.hij; have := ZD2.out; omega) hqF
                    have f0F := L2.out.fr ((J2) * 2)
                    have f1F := L2.out.fr ((J2) * 2 + 1)
                    have f2F := L2.out.fr ((a) * 2)
                    have f3F := L2.out.fr ((a) * 2 + 1)
                    obtain ⟨v2F, m2F⟩ := L2.out.ex ((a) * 2) ((J2) * 2) (.string qF.1) (by have hjz : a < D2.size := (by have := C2.out.hai; have := C2.out.hjb; have := C2.out.hij; have := ZD2.out; omega); omega)
                    obtain ⟨v3F, m3F⟩ := L2.out.ex2 ((a) * 2 + 1) ((J2) * 2) ((J2) * 2 + 1) (.string qF.1) (.string qF.2) (by have hjz : a < D2.size := (by have := C2.out.hai; have := C2.out.hjb; have := C2.out.hij; have := ZD2.out; omega); omega)
                    clear hpF hqF hSF
                    go_region
                    all_goals (try go_wp2)
                    go_ret2
                    first
                      | exact ⟨J2, false, _, rfl, HSF.out.drewN 2, (C2.out.done ltS_swo (by omega)).1, (C2.out.done ltS_swo (by omega)).2, below_drewN HTF.out 2⟩
                      | exact ⟨J2, false, _, rfl, HSF.out.drewN 3, (C2.out.done ltS_swo (by omega)).1, (C2.out.done ltS_swo (by omega)).2, below_drewN HTF.out 3⟩

          · have hlqz1 : ¬ (i1 : Int) ≤ (q1 : Int) := by omega
            have hlqw1 : (q1 : Int) < (i1 : Int) := by omega
            go_wp2
            refine wp_region_held_drew (S := (fun _ => True)) (by kernel_rfl) trivial (fun _ => ?_)
            refine wpAnyH_take (i := 0) (v := ?_) rfl (by kernel_rfl) (by kernel_rfl) (by kernel_rfl) (fun _ _ _ h => h) (Or.inl ⟨by rfl, ?_⟩) trivial ?_
            rotate_left
            · intro wS hSw
              go_simp
              try with_reducible rfl
            try simp only [List.getElem_toArray, List.getElem_cons_zero, List.getElem_cons_succ, Act.put, List.setIfInBounds_toArray, List.set_cons_zero, List.set_cons_succ]
            refine wpAnyH_take (i := 1) (v := ?_) rfl (by kernel_rfl) (by kernel_rfl) (by kernel_rfl) (fun _ _ _ h => h) (Or.inl ⟨by rfl, ?_⟩) trivial ?_
            rotate_left
            · intro wS hSw
              go_simp
              try with_reducible rfl
            try simp only [List.getElem_toArray, List.getElem_cons_zero, List.getElem_cons_succ, Act.put, List.setIfInBounds_toArray, List.set_cons_zero, List.set_cons_succ]
            refine wpAnyH_take (i := 2) (v := ?_) rfl (by kernel_rfl) (by kernel_rfl) (by kernel_rfl) (fun _ _ _ h => h) (Or.inl ⟨by rfl, ?_⟩) trivial ?_
            rotate_left
            · intro wS hSw
              go_simp
              try with_reducible rfl
            try simp only [List.getElem_toArray, List.getElem_cons_zero, List.getElem_cons_succ, Act.put, List.setIfInBounds_toArray, List.set_cons_zero, List.set_cons_succ]
            refine wpAnyH_take (i := 3) (v := ?_) rfl (by kernel_rfl) (by kernel_rfl) (by kernel_rfl) (fun _ _ _ h => h) (Or.inl ⟨by rfl, ?_⟩) trivial ?_
            rotate_left
            · intro wS hSw
              go_simp
              try with_reducible rfl
            try simp only [List.getElem_toArray, List.getElem_cons_zero, List.getElem_cons_succ, Act.put, List.setIfInBounds_toArray, List.set_cons_zero, List.set_cons_succ]
            refine wpAnyH_take (i := 4) (v := undef) rfl (by kernel_rfl) (by kernel_rfl) (by kernel_rfl) (fun _ _ _ h => h) (Or.inr ⟨by rfl, rfl⟩) trivial ?_
            try simp only [List.getElem_toArray, List.getElem_cons_zero, List.getElem_cons_succ, Act.put, List.setIfInBounds_toArray, List.set_cons_zero, List.set_cons_succ]
            refine wpAnyH_take (i := 5) (v := undef) rfl (by kernel_rfl) (by kernel_rfl) (by kernel_rfl) (fun _ _ _ h => h) (Or.inr ⟨by rfl, rfl⟩) trivial ?_
            try simp only [List.getElem_toArray, List.getElem_cons_zero, List.getElem_cons_succ, Act.put, List.setIfInBounds_toArray, List.set_cons_zero, List.set_cons_succ]
            refine wpAnyH_take (i := 6) (v := undef) rfl (by kernel_rfl) (by kernel_rfl) (by kernel_rfl) (fun _ _ _ h => h) (Or.inr ⟨by rfl, rfl⟩) trivial ?_
            try simp only [List.getElem_toArray, List.getElem_cons_zero, List.getElem_cons_succ, Act.put, List.setIfInBounds_toArray, List.set_cons_zero, List.set_cons_succ]
            refine wpAnyH_take (i := 7) (v := undef) rfl (by kernel_rfl) (by kernel_rfl) (by kernel_rfl) (fun _ _ _ h => h) (Or.inr ⟨by rfl, rfl⟩) trivial ?_
            try simp only [List.getElem_toArray, List.getElem_cons_zero, List.getElem_cons_succ, Act.put, List.setIfInBounds_toArray, List.set_cons_zero, List.set_cons_succ]
            refine wpAnyH_take (i := 8) (v := undef) rfl (by kernel_rfl) (by kernel_rfl) (by kernel_rfl) (fun _ _ _ h => h) (Or.inr ⟨by rfl, rfl⟩) trivial ?_
            try simp only [List.getElem_toArray, List.getElem_cons_zero, List.getElem_cons_succ, Act.put, List.setIfInBounds_toArray, List.set_cons_zero, List.set_cons_succ]
            refine wpAnyH_take (i := 9) (v := undef) rfl (by kernel_rfl) (by kernel_rfl) (by kernel_rfl) (fun _ _ _ h => h) (Or.inr ⟨by rfl, rfl⟩) trivial ?_
            try simp only [List.getElem_toArray, List.getElem_cons_zero, List.getElem_cons_succ, Act.put, List.setIfInBounds_toArray, List.set_cons_zero, List.set_cons_succ]
            refine wpAnyH_take (i := 10) (v := undef) rfl (by kernel_rfl) (by kernel_rfl) (by kernel_rfl) (fun _ _ _ h => h) (Or.inr ⟨by rfl, rfl⟩) trivial ?_
            try simp only [List.getElem_toArray, List.getElem_cons_zero, List.getElem_cons_succ, Act.put, List.setIfInBounds_toArray, List.set_cons_zero, List.set_cons_succ]
            refine wpAnyH_take (i := 11) (v := undef) rfl (by kernel_rfl) (by kernel_rfl) (by kernel_rfl) (fun _ _ _ h => h) (Or.inr ⟨by rfl, rfl⟩) trivial ?_
            try simp only [List.getElem_toArray, List.getElem_cons_zero, List.getElem_cons_succ, Act.put, List.setIfInBounds_toArray, List.set_cons_zero, List.set_cons_succ]
            refine wpAnyH_take (i := 12) (v := undef) rfl (by kernel_rfl) (by kernel_rfl) (by kernel_rfl) (fun _ _ _ h => h) (Or.inr ⟨by rfl, rfl⟩) trivial ?_
            try simp only [List.getElem_toArray, List.getElem_cons_zero, List.getElem_cons_succ, Act.put, List.setIfInBounds_toArray, List.set_cons_zero, List.set_cons_succ]
            refine wpAnyH_take (i := 13) (v := undef) rfl (by kernel_rfl) (by kernel_rfl) (by kernel_rfl) (fun _ _ _ h => h) (Or.inr ⟨by rfl, rfl⟩) trivial ?_
            try simp only [List.getElem_toArray, List.getElem_cons_zero, List.getElem_cons_succ, Act.put, List.setIfInBounds_toArray, List.set_cons_zero, List.set_cons_succ]
            refine wpAnyH_take (i := 14) (v := undef) rfl (by kernel_rfl) (by kernel_rfl) (by kernel_rfl) (fun _ _ _ h => h) (Or.inr ⟨by rfl, rfl⟩) trivial ?_
            try simp only [List.getElem_toArray, List.getElem_cons_zero, List.getElem_cons_succ, Act.put, List.setIfInBounds_toArray, List.set_cons_zero, List.set_cons_succ]
            refine wpAnyH_take (i := 15) (v := undef) rfl (by kernel_rfl) (by kernel_rfl) (by kernel_rfl) (fun _ _ _ h => h) (Or.inr ⟨by rfl, rfl⟩) trivial ?_
            try simp only [List.getElem_toArray, List.getElem_cons_zero, List.getElem_cons_succ, Act.put, List.setIfInBounds_toArray, List.set_cons_zero, List.set_cons_succ]
            refine wpAnyH_take (i := 16) (v := ?_) rfl (by kernel_rfl) (by kernel_rfl) (by kernel_rfl) (fun _ _ _ h => h) (Or.inl ⟨by rfl, ?_⟩) trivial ?_
            rotate_left
            · intro wS hSw
              go_simp
              try with_reducible rfl
            try simp only [List.getElem_toArray, List.getElem_cons_zero, List.getElem_cons_succ, Act.put, List.setIfInBounds_toArray, List.set_cons_zero, List.set_cons_succ]
            refine wpAnyH_done (by kernel_rfl) ?_ _

            go_wp2
            have hqz : (q1 : Int) < (n : Int) := by omega
            obtain ⟨pF, hpF⟩ : ∃ x, x = D1[q1]! := ⟨_, rfl⟩
            obtain ⟨qF, hqF⟩ : ∃ x, x = D1[a]! := ⟨_, rfl⟩
            have hSF := M1.out.swap (i := q1) (j := a) (by have := E1.out.hai; have := E1.out.hjb; have := E1.out.hij; have := ZD1.out; omega) (by have := E1.out.hai; have := E1.out.hjb; have := E1.out.hij; have := ZD1.out; omega)
            rw [← hpF, ← hqF] at hSF
            have HSF := Lib.hid hSF
            have HTF := Lib.hid (below4 N1.out hg ((q1) * 2) ((q1) * 2 + 1) ((a) * 2) ((a) * 2 + 1) (.string qF.1) (.string qF.2) (.string pF.1) (.string pF.2))
            have l0F := M1.out.at0 (i := q1) (by have := E1.out.hai; have := E1.out.hjb; have := E1.out.hij; have := ZD1.out; omega) hpF
            have l1F := M1.out.at1 (i := q1) (by have := E1.out.hai; have := E1.out.hjb; have := E1.out.hij; have := ZD1.out; omega) hpF
            have l2F := M1.out.at0 (i := a) (by have := E1.out.hai; have := E1.out.hjb; have := E1.out.hij; have := ZD1.out; omega) hqF
            have l3F := M1.out.at1 (i := a) (by have := E1.out.hai; have := E1.out.hjb; have := E1.out.hij; have := ZD1.out; omega) hqF
            have f0F := M1.out.fr ((q1) * 2)
            have f1F := M1.out.fr ((q1) * 2 + 1)
            have f2F := M1.out.fr ((a) * 2)
            have f3F := M1.out.fr ((a) * 2 + 1)
            obtain ⟨v2F, m2F⟩ := M1.out.ex ((a) * 2) ((q1) * 2) (.string qF.1) (by have hjz : a < D1.size := (by have := E1.out.hai; have := E1.out.hjb; have := E1.out.hij; have := ZD1.out; omega); omega)
            obtain ⟨v3F, m3F⟩ := M1.out.ex2 ((a) * 2 + 1) ((q1) * 2) ((q1) * 2 + 1) (.string qF.1) (.string qF.2) (by have hjz : a < D1.size := (by have := E1.out.hai; have := E1.out.hjb; have := E1.out.hij; have := ZD1.out; omega); omega)
            clear hpF hqF hSF
            go_region
            all_goals (try go_wp2)
            go_ret2
            first
              | exact ⟨q1, true, _, rfl, HSF.out.drewN 2, (E1.out.done ltS_swo (by omega)).1, (E1.out.done ltS_swo (by omega)).2, below_drewN HTF.out 2⟩
              | exact ⟨q1, true, _, rfl, HSF.out.drewN 3, (E1.out.done ltS_swo (by omega)).1, (E1.out.done ltS_swo (by omega)).2, below_drewN HTF.out 3⟩

    · have hlez1 : ¬ (i1 : Int) ≤ (J1 : Int) := by omega
      have hlew1 : (J1 : Int) < (i1 : Int) := by omega
      go_wp2
      refine wp_region_held_drew (S := (fun _ => True)) (by kernel_rfl) trivial (fun _ => ?_)
      refine wpAnyH_take (i := 0) (v := ?_) rfl (by kernel_rfl) (by kernel_rfl) (by kernel_rfl) (fun _ _ _ h => h) (Or.inl ⟨by rfl, ?_⟩) trivial ?_
      rotate_left
      · intro wS hSw
        go_simp
        try with_reducible rfl
      try simp only [List.getElem_toArray, List.getElem_cons_zero, List.getElem_cons_succ, Act.put, List.setIfInBounds_toArray, List.set_cons_zero, List.set_cons_succ]
      refine wpAnyH_take (i := 1) (v := ?_) rfl (by kernel_rfl) (by kernel_rfl) (by kernel_rfl) (fun _ _ _ h => h) (Or.inl ⟨by rfl, ?_⟩) trivial ?_
      rotate_left
      · intro wS hSw
        go_simp
        try with_reducible rfl
      try simp only [List.getElem_toArray, List.getElem_cons_zero, List.getElem_cons_succ, Act.put, List.setIfInBounds_toArray, List.set_cons_zero, List.set_cons_succ]
      refine wpAnyH_take (i := 2) (v := ?_) rfl (by kernel_rfl) (by kernel_rfl) (by kernel_rfl) (fun _ _ _ h => h) (Or.inl ⟨by rfl, ?_⟩) trivial ?_
      rotate_left
      · intro wS hSw
        go_simp
        try with_reducible rfl
      try simp only [List.getElem_toArray, List.getElem_cons_zero, List.getElem_cons_succ, Act.put, List.setIfInBounds_toArray, List.set_cons_zero, List.set_cons_succ]
      refine wpAnyH_take (i := 3) (v := ?_) rfl (by kernel_rfl) (by kernel_rfl) (by kernel_rfl) (fun _ _ _ h => h) (Or.inl ⟨by rfl, ?_⟩) trivial ?_
      rotate_left
      · intro wS hSw
        go_simp
        try with_reducible rfl
      try simp only [List.getElem_toArray, List.getElem_cons_zero, List.getElem_cons_succ, Act.put, List.setIfInBounds_toArray, List.set_cons_zero, List.set_cons_succ]
      refine wpAnyH_take (i := 4) (v := undef) rfl (by kernel_rfl) (by kernel_rfl) (by kernel_rfl) (fun _ _ _ h => h) (Or.inr ⟨by rfl, rfl⟩) trivial ?_
      try simp only [List.getElem_toArray, List.getElem_cons_zero, List.getElem_cons_succ, Act.put, List.setIfInBounds_toArray, List.set_cons_zero, List.set_cons_succ]
      refine wpAnyH_take (i := 5) (v := undef) rfl (by kernel_rfl) (by kernel_rfl) (by kernel_rfl) (fun _ _ _ h => h) (Or.inr ⟨by rfl, rfl⟩) trivial ?_
      try simp only [List.getElem_toArray, List.getElem_cons_zero, List.getElem_cons_succ, Act.put, List.setIfInBounds_toArray, List.set_cons_zero, List.set_cons_succ]
      refine wpAnyH_take (i := 6) (v := undef) rfl (by kernel_rfl) (by kernel_rfl) (by kernel_rfl) (fun _ _ _ h => h) (Or.inr ⟨by rfl, rfl⟩) trivial ?_
      try simp only [List.getElem_toArray, List.getElem_cons_zero, List.getElem_cons_succ, Act.put, List.setIfInBounds_toArray, List.set_cons_zero, List.set_cons_succ]
      refine wpAnyH_take (i := 7) (v := undef) rfl (by kernel_rfl) (by kernel_rfl) (by kernel_rfl) (fun _ _ _ h => h) (Or.inr ⟨by rfl, rfl⟩) trivial ?_
      try simp only [List.getElem_toArray, List.getElem_cons_zero, List.getElem_cons_succ, Act.put, List.setIfInBounds_toArray, List.set_cons_zero, List.set_cons_succ]
      refine wpAnyH_take (i := 8) (v := undef) rfl (by kernel_rfl) (by kernel_rfl) (by kernel_rfl) (fun _ _ _ h => h) (Or.inr ⟨by rfl, rfl⟩) trivial ?_
      try simp only [List.getElem_toArray, List.getElem_cons_zero, List.getElem_cons_succ, Act.put, List.setIfInBounds_toArray, List.set_cons_zero, List.set_cons_succ]
      refine wpAnyH_take (i := 9) (v := undef) rfl (by kernel_rfl) (by kernel_rfl) (by kernel_rfl) (fun _ _ _ h => h) (Or.inr ⟨by rfl, rfl⟩) trivial ?_
      try simp only [List.getElem_toArray, List.getElem_cons_zero, List.getElem_cons_succ, Act.put, List.setIfInBounds_toArray, List.set_cons_zero, List.set_cons_succ]
      refine wpAnyH_take (i := 10) (v := undef) rfl (by kernel_rfl) (by kernel_rfl) (by kernel_rfl) (fun _ _ _ h => h) (Or.inr ⟨by rfl, rfl⟩) trivial ?_
      try simp only [List.getElem_toArray, List.getElem_cons_zero, List.getElem_cons_succ, Act.put, List.setIfInBounds_toArray, List.set_cons_zero, List.set_cons_succ]
      refine wpAnyH_take (i := 11) (v := undef) rfl (by kernel_rfl) (by kernel_rfl) (by kernel_rfl) (fun _ _ _ h => h) (Or.inr ⟨by rfl, rfl⟩) trivial ?_
      try simp only [List.getElem_toArray, List.getElem_cons_zero, List.getElem_cons_succ, Act.put, List.setIfInBounds_toArray, List.set_cons_zero, List.set_cons_succ]
      refine wpAnyH_take (i := 12) (v := undef) rfl (by kernel_rfl) (by kernel_rfl) (by kernel_rfl) (fun _ _ _ h => h) (Or.inr ⟨by rfl, rfl⟩) trivial ?_
      try simp only [List.getElem_toArray, List.getElem_cons_zero, List.getElem_cons_succ, Act.put, List.setIfInBounds_toArray, List.set_cons_zero, List.set_cons_succ]
      refine wpAnyH_take (i := 13) (v := undef) rfl (by kernel_rfl) (by kernel_rfl) (by kernel_rfl) (fun _ _ _ h => h) (Or.inr ⟨by rfl, rfl⟩) trivial ?_
      try simp only [List.getElem_toArray, List.getElem_cons_zero, List.getElem_cons_succ, Act.put, List.setIfInBounds_toArray, List.set_cons_zero, List.set_cons_succ]
      refine wpAnyH_take (i := 14) (v := undef) rfl (by kernel_rfl) (by kernel_rfl) (by kernel_rfl) (fun _ _ _ h => h) (Or.inr ⟨by rfl, rfl⟩) trivial ?_
      try simp only [List.getElem_toArray, List.getElem_cons_zero, List.getElem_cons_succ, Act.put, List.setIfInBounds_toArray, List.set_cons_zero, List.set_cons_succ]
      refine wpAnyH_take (i := 15) (v := ?_) rfl (by kernel_rfl) (by kernel_rfl) (by kernel_rfl) (fun _ _ _ h => h) (Or.inl ⟨by rfl, ?_⟩) trivial ?_
      rotate_left
      · intro wS hSw
        go_simp
        try with_reducible rfl
      try simp only [List.getElem_toArray, List.getElem_cons_zero, List.getElem_cons_succ, Act.put, List.setIfInBounds_toArray, List.set_cons_zero, List.set_cons_succ]
      refine wpAnyH_done (by kernel_rfl) ?_ _

      go_wp2
      refine wp_loop_once ?_
      go_wp2
      refine wp_region_held_drew (S := (fun _ => True)) (by kernel_rfl) trivial (fun _ => ?_)
      refine wpAnyH_take (i := 0) (v := ?_) rfl (by kernel_rfl) (by kernel_rfl) (by kernel_rfl) (fun _ _ _ h => h) (Or.inl ⟨by rfl, ?_⟩) trivial ?_
      rotate_left
      · intro wS hSw
        go_simp
        try with_reducible rfl
      try simp only [List.getElem_toArray, List.getElem_cons_zero, List.getElem_cons_succ, Act.put, List.setIfInBounds_toArray, List.set_cons_zero, List.set_cons_succ]
      refine wpAnyH_take (i := 1) (v := ?_) rfl (by kernel_rfl) (by kernel_rfl) (by kernel_rfl) (fun _ _ _ h => h) (Or.inl ⟨by rfl, ?_⟩) trivial ?_
      rotate_left
      · intro wS hSw
        go_simp
        try with_reducible rfl
      try simp only [List.getElem_toArray, List.getElem_cons_zero, List.getElem_cons_succ, Act.put, List.setIfInBounds_toArray, List.set_cons_zero, List.set_cons_succ]
      refine wpAnyH_take (i := 2) (v := ?_) rfl (by kernel_rfl) (by kernel_rfl) (by kernel_rfl) (fun _ _ _ h => h) (Or.inl ⟨by rfl, ?_⟩) trivial ?_
      rotate_left
      · intro wS hSw
        go_simp
        try with_reducible rfl
      try simp only [List.getElem_toArray, List.getElem_cons_zero, List.getElem_cons_succ, Act.put, List.setIfInBounds_toArray, List.set_cons_zero, List.set_cons_succ]
      refine wpAnyH_take (i := 3) (v := ?_) rfl (by kernel_rfl) (by kernel_rfl) (by kernel_rfl) (fun _ _ _ h => h) (Or.inl ⟨by rfl, ?_⟩) trivial ?_
      rotate_left
      · intro wS hSw
        go_simp
        try with_reducible rfl
      try simp only [List.getElem_toArray, List.getElem_cons_zero, List.getElem_cons_succ, Act.put, List.setIfInBounds_toArray, List.set_cons_zero, List.set_cons_succ]
      refine wpAnyH_take (i := 4) (v := undef) rfl (by kernel_rfl) (by kernel_rfl) (by kernel_rfl) (fun _ _ _ h => h) (Or.inr ⟨by rfl, rfl⟩) trivial ?_
      try simp only [List.getElem_toArray, List.getElem_cons_zero, List.getElem_cons_succ, Act.put, List.setIfInBounds_toArray, List.set_cons_zero, List.set_cons_succ]
      refine wpAnyH_take (i := 5) (v := undef) rfl (by kernel_rfl) (by kernel_rfl) (by kernel_rfl) (fun _ _ _ h => h) (Or.inr ⟨by rfl, rfl⟩) trivial ?_
      try simp only [List.getElem_toArray, List.getElem_cons_zero, List.getElem_cons_succ, Act.put, List.setIfInBounds_toArray, List.set_cons_zero, List.set_cons_succ]
      refine wpAnyH_take (i := 6) (v := undef) rfl (by kernel_rfl) (by kernel_rfl) (by kernel_rfl) (fun _ _ _ h => h) (Or.inr ⟨by rfl, rfl⟩) trivial ?_
      try simp only [List.getElem_toArray, List.getElem_cons_zero, List.getElem_cons_succ, Act.put, List.setIfInBounds_toArray, List.set_cons_zero, List.set_cons_succ]
      refine wpAnyH_take (i := 7) (v := undef) rfl (by kernel_rfl) (by kernel_rfl) (by kernel_rfl) (fun _ _ _ h => h) (Or.inr ⟨by rfl, rfl⟩) trivial ?_
      try simp only [List.getElem_toArray, List.getElem_cons_zero, List.getElem_cons_succ, Act.put, List.setIfInBounds_toArray, List.set_cons_zero, List.set_cons_succ]
      refine wpAnyH_take (i := 8) (v := undef) rfl (by kernel_rfl) (by kernel_rfl) (by kernel_rfl) (fun _ _ _ h => h) (Or.inr ⟨by rfl, rfl⟩) trivial ?_
      try simp only [List.getElem_toArray, List.getElem_cons_zero, List.getElem_cons_succ, Act.put, List.setIfInBounds_toArray, List.set_cons_zero, List.set_cons_succ]
      refine wpAnyH_take (i := 9) (v := undef) rfl (by kernel_rfl) (by kernel_rfl) (by kernel_rfl) (fun _ _ _ h => h) (Or.inr ⟨by rfl, rfl⟩) trivial ?_
      try simp only [List.getElem_toArray, List.getElem_cons_zero, List.getElem_cons_succ, Act.put, List.setIfInBounds_toArray, List.set_cons_zero, List.set_cons_succ]
      refine wpAnyH_take (i := 10) (v := undef) rfl (by kernel_rfl) (by kernel_rfl) (by kernel_rfl) (fun _ _ _ h => h) (Or.inr ⟨by rfl, rfl⟩) trivial ?_
      try simp only [List.getElem_toArray, List.getElem_cons_zero, List.getElem_cons_succ, Act.put, List.setIfInBounds_toArray, List.set_cons_zero, List.set_cons_succ]
      refine wpAnyH_take (i := 11) (v := undef) rfl (by kernel_rfl) (by kernel_rfl) (by kernel_rfl) (fun _ _ _ h => h) (Or.inr ⟨by rfl, rfl⟩) trivial ?_
      try simp only [List.getElem_toArray, List.getElem_cons_zero, List.getElem_cons_succ, Act.put, List.setIfInBounds_toArray, List.set_cons_zero, List.set_cons_succ]
      refine wpAnyH_take (i := 12) (v := undef) rfl (by kernel_rfl) (by kernel_rfl) (by kernel_rfl) (fun _ _ _ h => h) (Or.inr ⟨by rfl, rfl⟩) trivial ?_
      try simp only [List.getElem_toArray, List.getElem_cons_zero, List.getElem_cons_succ, Act.put, List.setIfInBounds_toArray, List.set_cons_zero, List.set_cons_succ]
      refine wpAnyH_take (i := 13) (v := undef) rfl (by kernel_rfl) (by kernel_rfl) (by kernel_rfl) (fun _ _ _ h => h) (Or.inr ⟨by rfl, rfl⟩) trivial ?_
      try simp only [List.getElem_toArray, List.getElem_cons_zero, List.getElem_cons_succ, Act.put, List.setIfInBounds_toArray, List.set_cons_zero, List.set_cons_succ]
      refine wpAnyH_take (i := 14) (v := undef) rfl (by kernel_rfl) (by kernel_rfl) (by kernel_rfl) (fun _ _ _ h => h) (Or.inr ⟨by rfl, rfl⟩) trivial ?_
      try simp only [List.getElem_toArray, List.getElem_cons_zero, List.getElem_cons_succ, Act.put, List.setIfInBounds_toArray, List.set_cons_zero, List.set_cons_succ]
      refine wpAnyH_take (i := 15) (v := undef) rfl (by kernel_rfl) (by kernel_rfl) (by kernel_rfl) (fun _ _ _ h => h) (Or.inr ⟨by rfl, rfl⟩) trivial ?_
      try simp only [List.getElem_toArray, List.getElem_cons_zero, List.getElem_cons_succ, Act.put, List.setIfInBounds_toArray, List.set_cons_zero, List.set_cons_succ]
      refine wpAnyH_take (i := 16) (v := ?_) rfl (by kernel_rfl) (by kernel_rfl) (by kernel_rfl) (fun _ _ _ h => h) (Or.inl ⟨by rfl, ?_⟩) trivial ?_
      rotate_left
      · intro wS hSw
        go_simp
        try with_reducible rfl
      try simp only [List.getElem_toArray, List.getElem_cons_zero, List.getElem_cons_succ, Act.put, List.setIfInBounds_toArray, List.set_cons_zero, List.set_cons_succ]
      refine wpAnyH_done (by kernel_rfl) ?_ _

      go_wp2
      have hqz : (J1 : Int) < (n : Int) := by omega
      obtain ⟨pF, hpF⟩ : ∃ x, x = D1[J1]! := ⟨_, rfl⟩
      obtain ⟨qF, hqF⟩ : ∃ x, x = D1[a]! := ⟨_, rfl⟩
      have hSF := L1.out.swap (i := J1) (j := a) (by have := C1.out.hai; have := C1.out.hjb; have := C1.out.hij; have := ZD1.out; omega) (by have := C1.out.hai; have := C1.out.hjb; have := C1.out.hij; have := ZD1.out; omega)
      rw [← hpF, ← hqF] at hSF
      have HSF := Lib.hid hSF
      have HTF := Lib.hid (below4 B1.out hg ((J1) * 2) ((J1) * 2 + 1) ((a) * 2) ((a) * 2 + 1) (.string qF.1) (.string qF.2) (.string pF.1) (.string pF.2))
      have l0F := L1.out.at0 (i := J1) (by have := C1.out.hai; have := C1.out.hjb; have := C1.out.hij; have := ZD1.out; omega) hpF
      have l1F := L1.out.at1 (i := J1) (by have := C1.out.hai; have := C1.out.hjb; have := C1.out.hij; have := ZD1.out; omega) hpF
      have l2F := L1.out.at0 (i := a) (by have := C1.out.hai; have := C1.out.hjb; have := C1.out.hij; have := ZD1.out; omega) hqF
      have l3F := L1.out.at1 (i := a) (by have := C1.out.hai; have := C1.out.hjb; have := C1.out.hij; have := ZD1.out; omega) hqF
      have f0F := L1.out.fr ((J1) * 2)
      have f1F := L1.out.fr ((J1) * 2 + 1)
      have f2F := L1.out.fr ((a) * 2)
      have f3F := L1.out.fr ((a) * 2 + 1)
      obtain ⟨v2F, m2F⟩ := L1.out.ex ((a) * 2) ((J1) * 2) (.string qF.1) (by have hjz : a < D1.size := (by have := C1.out.hai; have := C1.out.hjb; have := C1.out.hij; have := ZD1.out; omega); omega)
      obtain ⟨v3F, m3F⟩ := L1.out.ex2 ((a) * 2 + 1) ((J1) * 2) ((J1) * 2 + 1) (.string qF.1) (.string qF.2) (by have hjz : a < D1.size := (by have := C1.out.hai; have := C1.out.hjb; have := C1.out.hij; have := ZD1.out; omega); omega)
      clear hpF hqF hSF
      go_region
      all_goals (try go_wp2)
      go_ret2
      first
        | exact ⟨J1, true, _, rfl, HSF.out.drewN 2, (C1.out.done ltS_swo (by omega)).1, (C1.out.done ltS_swo (by omega)).2, below_drewN HTF.out 2⟩
        | exact ⟨J1, true, _, rfl, HSF.out.drewN 3, (C1.out.done ltS_swo (by omega)).1, (C1.out.done ltS_swo (by omega)).2, below_drewN HTF.out 3⟩
end Cib
