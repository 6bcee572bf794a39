/- Order: the median of three spans. Printed by genS.py. -/
import Derived.Test.YtijinfmokbaahaaOrdS
set_option linter.unusedVariables false
set_option linter.unusedSimpArgs false
set_option maxRecDepth 20000
namespace Cib
open Go Go.RowKit Go.Proofs
set_option maxHeartbeats 4000000 in
theorem ordTwo (g n c a b q s B : Nat) (d : Array Sn) (w : World) (h : Lies w g d) (hq : Blk w q 3 #[.int .i64 s]) (hgq : g ≠ q) (hn : d.size = n) (hg : B ≤ g) (hBq : B ≤ q) (ha : a < n) (hb : b < n) (hs : n ≤ 45) (hss : s ≤ 40) : Calls Try.prog 61 #[.slice (some ⟨g, 0, none⟩) n c, .int .i64 a, .int .i64 b, .pointer (some ⟨q, 0, none⟩), cmpV] w fun e w' =>
    ∃ x y s' : Nat, e = .returned (.tuple #[.int .i64 x, .int .i64 y]) ∧ (x = a ∧ y = b ∨ x = b ∧ y = a) ∧ s' ≤ s + 1 ∧ Lies w' g d ∧ Blk w' q 3 #[.int .i64 s'] ∧ Below B w w' := by
  have HL := Lib.hid h
  have HQ := Lib.hid hq
  have HN := Lib.hid hn
  have HB := Lib.hid (Below.refl B w)
  have haz : (a : Int) < (n : Int) := by omega
  have hbz : (b : Int) < (n : Int) := by omega
  have hws : IntKind.i64.wrap ((s : Int) + 1) = (s : Int) + 1 := by rw [IntKind.wrap_i64]; omega
  clear h hn hq
  unfold cmpV
  go_enter Try.func61, Try.ntmps61
  cases hcA : ltS d[b]! d[a]! with
  | false =>
    obtain ⟨xA, hxA⟩ : ∃ x, x = d[b]! := ⟨_, rfl⟩
    obtain ⟨yA, hyA⟩ : ∃ x, x = d[a]! := ⟨_, rfl⟩
    rw [← hxA, ← hyA] at hcA
    have hiA : b < d.size := by have := HN.out; omega
    have hjA : a < d.size := by have := HN.out; omega
    have hvA : ¬ cfS xA yA < 0 := (cf_lt_no _ _).2 hcA
    have hdA : decide (cfS xA yA < 0) = false := decide_eq_false hvA
    have HXA := Lib.hid (And.intro hxA hyA)
    have HIA := Lib.hid (And.intro hiA hjA)
    have HCA := Lib.hid hcA
    clear hxA hyA hiA hjA hcA
    go_wp2
    refine wp_region_held_drew (S := (fun wQq => (Lies wQq g d ∧ Below B w wQq) ∧ Blk wQq q 3 #[.int .i64 s])) (by kernel_rfl) (⟨⟨HL.out.drewN 1, below_drewN HB.out 1⟩, HQ.out.drewN 1⟩) (fun _ => ?_)
    refine wpAnyH_take (i := 0) (v := ?_) rfl (by kernel_rfl) (by kernel_rfl) (by kernel_rfl) (fun _ _ _ h => h) (Or.inl ⟨by rfl, ?_⟩) (⟨⟨HL.out.drewN 1, below_drewN HB.out 1⟩, HQ.out.drewN 1⟩) ?_
    rotate_left
    · intro wS hSw
      go_simp
      try with_reducible rfl
    try simp only [List.getElem_toArray, List.getElem_cons_zero, List.getElem_cons_succ, Act.put, List.setIfInBounds_toArray, List.set_cons_zero, List.set_cons_succ]
    refine wpAnyH_take (i := 1) (v := ?_) rfl (by kernel_rfl) (by kernel_rfl) (by kernel_rfl) (fun _ _ _ h => h) (Or.inl ⟨by rfl, ?_⟩) (⟨⟨HL.out.drewN 1, below_drewN HB.out 1⟩, HQ.out.drewN 1⟩) ?_
    rotate_left
    · intro wS hSw
      go_simp
      try with_reducible rfl
    try simp only [List.getElem_toArray, List.getElem_cons_zero, List.getElem_cons_succ, Act.put, List.setIfInBounds_toArray, List.set_cons_zero, List.set_cons_succ]
    refine wpAnyH_take (i := 2) (v := ?_) rfl (by kernel_rfl) (by kernel_rfl) (by kernel_rfl) (fun _ _ _ h => h) (Or.inl ⟨by rfl, ?_⟩) (⟨⟨HL.out.drewN 1, below_drewN HB.out 1⟩, HQ.out.drewN 1⟩) ?_
    rotate_left
    · intro wS hSw
      go_simp
      try with_reducible rfl
    try simp only [List.getElem_toArray, List.getElem_cons_zero, List.getElem_cons_succ, Act.put, List.setIfInBounds_toArray, List.set_cons_zero, List.set_cons_succ]
    refine wpAnyH_take (i := 3) (v := ?_) rfl (by kernel_rfl) (by kernel_rfl) (by kernel_rfl) (fun _ _ _ h => h) (Or.inl ⟨by rfl, ?_⟩) (⟨⟨HL.out.drewN 1, below_drewN HB.out 1⟩, HQ.out.drewN 1⟩) ?_
    rotate_left
    · intro wS hSw
      go_simp
      try with_reducible rfl
    try simp only [List.getElem_toArray, List.getElem_cons_zero, List.getElem_cons_succ, Act.put, List.setIfInBounds_toArray, List.set_cons_zero, List.set_cons_succ]
    refine wpAnyH_take (i := 5) (v := ?_) rfl (by kernel_rfl) (by kernel_rfl) (by kernel_rfl) (fun _ _ _ h => h) (Or.inl ⟨by rfl, ?_⟩) (⟨⟨HL.out.drewN 1, below_drewN HB.out 1⟩, HQ.out.drewN 1⟩) ?_
    rotate_left
    · intro wS hSw
      go_simp
      try with_reducible rfl
    try simp only [List.getElem_toArray, List.getElem_cons_zero, List.getElem_cons_succ, Act.put, List.setIfInBounds_toArray, List.set_cons_zero, List.set_cons_succ]
    refine wpAnyH_take (i := 6) (v := ?_) rfl (by kernel_rfl) (by kernel_rfl) (by kernel_rfl) (fun _ _ _ h => h) (Or.inl ⟨by rfl, ?_⟩) (⟨⟨HL.out.drewN 1, below_drewN HB.out 1⟩, HQ.out.drewN 1⟩) ?_
    rotate_left
    · intro wS hSw
      go_simp
      try with_reducible rfl
    try simp only [List.getElem_toArray, List.getElem_cons_zero, List.getElem_cons_succ, Act.put, List.setIfInBounds_toArray, List.set_cons_zero, List.set_cons_succ]
    refine wpAnyH_take (i := 7) (v := ?_) rfl (by kernel_rfl) (by kernel_rfl) (by kernel_rfl) (fun _ _ _ h => h) (Or.inl ⟨by rfl, ?_⟩) (⟨⟨HL.out.drewN 1, below_drewN HB.out 1⟩, HQ.out.drewN 1⟩) ?_
    rotate_left
    · intro wS hSw
      go_simp
      try with_reducible rfl
    try simp only [List.getElem_toArray, List.getElem_cons_zero, List.getElem_cons_succ, Act.put, List.setIfInBounds_toArray, List.set_cons_zero, List.set_cons_succ]
    refine wpAnyH_take (i := 4) (v := ?_) rfl (by kernel_rfl) (by kernel_rfl) (by kernel_rfl) (fun _ _ _ h => h) (Or.inl ⟨by rfl, ?_⟩) (⟨⟨HL.out.drewN 1, below_drewN HB.out 1⟩, HQ.out.drewN 1⟩) ?_
    rotate_left
    · intro wS hSw
      have hcv := hSw.1.1.at0 HIA.out.1 HXA.out.1
      have hcv2 := hSw.1.1.at1 HIA.out.1 HXA.out.1
      go_simp
      try with_reducible rfl
    try simp only [List.getElem_toArray, List.getElem_cons_zero, List.getElem_cons_succ, Act.put, List.setIfInBounds_toArray, List.set_cons_zero, List.set_cons_succ]
    refine wpAnyH_take (i := 8) (v := ?_) rfl (by kernel_rfl) (by kernel_rfl) (by kernel_rfl) (fun _ _ _ h => h) (Or.inl ⟨by rfl, ?_⟩) (⟨⟨HL.out.drewN 1, below_drewN HB.out 1⟩, HQ.out.drewN 1⟩) ?_
    rotate_left
    · intro wS hSw
      have hcv := hSw.1.1.at0 HIA.out.2 HXA.out.2
      have hcv2 := hSw.1.1.at1 HIA.out.2 HXA.out.2
      go_simp
      try with_reducible rfl
    try simp only [List.getElem_toArray, List.getElem_cons_zero, List.getElem_cons_succ, Act.put, List.setIfInBounds_toArray, List.set_cons_zero, List.set_cons_succ]
    refine wpAnyH_ready (rs := [9]) (by kernel_rfl) (by simp) ?_
    refine AllReadyH.cons rfl (fun K hK => ?_) AllReadyH.nil
    go_simp
    refine (ordCmp xA yA _).mono ?_
    rintro e wA ⟨rfl, hbA⟩
    have HLA := Lib.hid ((HL.out.drewN 1).below hbA HL.out.lt)
    have HBA := Lib.hid ((below_drewN HB.out 1).trans (hbA.mono (Nat.le_trans hg (Nat.le_of_lt HL.out.lt))))
    have HQA := Lib.hid ((HQ.out.drewN 1).below hbA HQ.out.lt)
    clear hbA
    refine hK.out _ _ ⟨⟨HLA.out, HBA.out⟩, HQA.out⟩ (fun _ => ?_)
    clear hK K
    try simp only [List.getElem_toArray, List.getElem_cons_zero, List.getElem_cons_succ, Act.put, List.setIfInBounds_toArray, List.set_cons_zero, List.set_cons_succ]
    refine wpAnyH_take (i := 10) (v := ?_) rfl (by kernel_rfl) (by kernel_rfl) (by kernel_rfl) (fun _ _ _ h => h) (Or.inl ⟨by rfl, ?_⟩) ⟨⟨HLA.out, HBA.out⟩, HQA.out⟩ ?_
    rotate_left
    · intro wS hSw
      go_simp
      try with_reducible rfl
    try simp only [List.getElem_toArray, List.getElem_cons_zero, List.getElem_cons_succ, Act.put, List.setIfInBounds_toArray, List.set_cons_zero, List.set_cons_succ]
    refine wpAnyH_done (by kernel_rfl) ?_ _

    go_wp2
    go_ret2
    exact ⟨a, b, s, rfl, .inl ⟨rfl, rfl⟩, by omega, HLA.out, HQA.out, HBA.out⟩
  | true =>
    obtain ⟨xA, hxA⟩ : ∃ x, x = d[b]! := ⟨_, rfl⟩
    obtain ⟨yA, hyA⟩ : ∃ x, x = d[a]! := ⟨_, rfl⟩
    rw [← hxA, ← hyA] at hcA
    have hiA : b < d.size := by have := HN.out; omega
    have hjA : a < d.size := by have := HN.out; omega
    have hvA : cfS xA yA < 0 := (cf_lt _ _).2 hcA
    have hdA : decide (cfS xA yA < 0) = true := decide_eq_true hvA
    have HXA := Lib.hid (And.intro hxA hyA)
    have HIA := Lib.hid (And.intro hiA hjA)
    have HCA := Lib.hid hcA
    clear hxA hyA hiA hjA hcA
    go_wp2
    refine wp_region_held_drew (S := (fun wQq => (Lies wQq g d ∧ Below B w wQq) ∧ Blk wQq q 3 #[.int .i64 s])) (by kernel_rfl) (⟨⟨HL.out.drewN 1, below_drewN HB.out 1⟩, HQ.out.drewN 1⟩) (fun _ => ?_)
    refine wpAnyH_take (i := 0) (v := ?_) rfl (by kernel_rfl) (by kernel_rfl) (by kernel_rfl) (fun _ _ _ h => h) (Or.inl ⟨by rfl, ?_⟩) (⟨⟨HL.out.drewN 1, below_drewN HB.out 1⟩, HQ.out.drewN 1⟩) ?_
    rotate_left
    · intro wS hSw
      go_simp
      try with_reducible rfl
    try simp only [List.getElem_toArray, List.getElem_cons_zero, List.getElem_cons_succ, Act.put, List.setIfInBounds_toArray, List.set_cons_zero, List.set_cons_succ]
    refine wpAnyH_take (i := 1) (v := ?_) rfl (by kernel_rfl) (by kernel_rfl) (by kernel_rfl) (fun _ _ _ h => h) (Or.inl ⟨by rfl, ?_⟩) (⟨⟨HL.out.drewN 1, below_drewN HB.out 1⟩, HQ.out.drewN 1⟩) ?_
    rotate_left
    · intro wS hSw
      go_simp
      try with_reducible rfl
    try simp only [List.getElem_toArray, List.getElem_cons_zero, List.getElem_cons_succ, Act.put, List.setIfInBounds_toArray, List.set_cons_zero, List.set_cons_succ]
    refine wpAnyH_take (i := 2) (v := ?_) rfl (by kernel_rfl) (by kernel_rfl) (by kernel_rfl) (fun _ _ _ h => h) (Or.inl ⟨by rfl, ?_⟩) (⟨⟨HL.out.drewN 1, below_drewN HB.out 1⟩, HQ.out.drewN 1⟩) ?_
    rotate_left
    · intro wS hSw
      go_simp
      try with_reducible rfl
    try simp only [List.getElem_toArray, List.getElem_cons_zero, List.getElem_cons_succ, Act.put, List.setIfInBounds_toArray, List.set_cons_zero, List.set_cons_succ]
    refine wpAnyH_take (i := 3) (v := ?_) rfl (by kernel_rfl) (by kernel_rfl) (by kernel_rfl) (fun _ _ _ h => h) (Or.inl ⟨by rfl, ?_⟩) (⟨⟨HL.out.drewN 1, below_drewN HB.out 1⟩, HQ.out.drewN 1⟩) ?_
    rotate_left
    · intro wS hSw
      go_simp
      try with_reducible rfl
    try simp only [List.getElem_toArray, List.getElem_cons_zero, List.getElem_cons_succ, Act.put, List.setIfInBounds_toArray, List.set_cons_zero, List.set_cons_succ]
    refine wpAnyH_take (i := 5) (v := ?_) rfl (by kernel_rfl) (by kernel_rfl) (by kernel_rfl) (fun _ _ _ h => h) (Or.inl ⟨by rfl, ?_⟩) (⟨⟨HL.out.drewN 1, below_drewN HB.out 1⟩, HQ.out.drewN 1⟩) ?_
    rotate_left
    · intro wS hSw
      go_simp
      try with_reducible rfl
    try simp only [List.getElem_toArray, List.getElem_cons_zero, List.getElem_cons_succ, Act.put, List.setIfInBounds_toArray, List.set_cons_zero, List.set_cons_succ]
    refine wpAnyH_take (i := 6) (v := ?_) rfl (by kernel_rfl) (by kernel_rfl) (by kernel_rfl) (fun _ _ _ h => h) (Or.inl ⟨by rfl, ?_⟩) (⟨⟨HL.out.drewN 1, below_drewN HB.out 1⟩, HQ.out.drewN 1⟩) ?_
    rotate_left
    · intro wS hSw
      go_simp
      try with_reducible rfl
    try simp only [List.getElem_toArray, List.getElem_cons_zero, List.getElem_cons_succ, Act.put, List.setIfInBounds_toArray, List.set_cons_zero, List.set_cons_succ]
    refine wpAnyH_take (i := 7) (v := ?_) rfl (by kernel_rfl) (by kernel_rfl) (by kernel_rfl) (fun _ _ _ h => h) (Or.inl ⟨by rfl, ?_⟩) (⟨⟨HL.out.drewN 1, below_drewN HB.out 1⟩, HQ.out.drewN 1⟩) ?_
    rotate_left
    · intro wS hSw
      go_simp
      try with_reducible rfl
    try simp only [List.getElem_toArray, List.getElem_cons_zero, List.getElem_cons_succ, Act.put, List.setIfInBounds_toArray, List.set_cons_zero, List.set_cons_succ]
    refine wpAnyH_take (i := 4) (v := ?_) rfl (by kernel_rfl) (by kernel_rfl) (by kernel_rfl) (fun _ _ _ h => h) (Or.inl ⟨by rfl, ?_⟩) (⟨⟨HL.out.drewN 1, below_drewN HB.out 1⟩, HQ.out.drewN 1⟩) ?_
    rotate_left
    · intro wS hSw
      have hcv := hSw.1.1.at0 HIA.out.1 HXA.out.1
      have hcv2 := hSw.1.1.at1 HIA.out.1 HXA.out.1
      go_simp
      try with_reducible rfl
    try simp only [List.getElem_toArray, List.getElem_cons_zero, List.getElem_cons_succ, Act.put, List.setIfInBounds_toArray, List.set_cons_zero, List.set_cons_succ]
    refine wpAnyH_take (i := 8) (v := ?_) rfl (by kernel_rfl) (by kernel_rfl) (by kernel_rfl) (fun _ _ _ h => h) (Or.inl ⟨by rfl, ?_⟩) (⟨⟨HL.out.drewN 1, below_drewN HB.out 1⟩, HQ.out.drewN 1⟩) ?_
    rotate_left
    · intro wS hSw
      have hcv := hSw.1.1.at0 HIA.out.2 HXA.out.2
      have hcv2 := hSw.1.1.at1 HIA.out.2 HXA.out.2
      go_simp
      try with_reducible rfl
    try simp only [List.getElem_toArray, List.getElem_cons_zero, List.getElem_cons_succ, Act.put, List.setIfInBounds_toArray, List.set_cons_zero, List.set_cons_succ]
    refine wpAnyH_ready (rs := [9]) (by kernel_rfl) (by simp) ?_
    refine AllReadyH.cons rfl (fun K hK => ?_) AllReadyH.nil
    go_simp
    refine (ordCmp xA yA _).mono ?_
    rintro e wA ⟨rfl, hbA⟩
    have HLA := Lib.hid ((HL.out.drewN 1).below hbA HL.out.lt)
    have HBA := Lib.hid ((below_drewN HB.out 1).trans (hbA.mono (Nat.le_trans hg (Nat.le_of_lt HL.out.lt))))
    have HQA := Lib.hid ((HQ.out.drewN 1).below hbA HQ.out.lt)
    clear hbA
    refine hK.out _ _ ⟨⟨HLA.out, HBA.out⟩, HQA.out⟩ (fun _ => ?_)
    clear hK K
    try simp only [List.getElem_toArray, List.getElem_cons_zero, List.getElem_cons_succ, Act.put, List.setIfInBounds_toArray, List.set_cons_zero, List.set_cons_succ]
    refine wpAnyH_take (i := 10) (v := ?_) rfl (by kernel_rfl) (by kernel_rfl) (by kernel_rfl) (fun _ _ _ h => h) (Or.inl ⟨by rfl, ?_⟩) ⟨⟨HLA.out, HBA.out⟩, HQA.out⟩ ?_
    rotate_left
    · intro wS hSw
      go_simp
      try with_reducible rfl
    try simp only [List.getElem_toArray, List.getElem_cons_zero, List.getElem_cons_succ, Act.put, List.setIfInBounds_toArray, List.set_cons_zero, List.set_cons_succ]
    refine wpAnyH_done (by kernel_rfl) ?_ _

    have hc := HQA.out.cell 0
    have hf := HQA.out.frozen 0
    simp only [List.getElem?_toArray, List.getElem?_cons_zero] at hc
    go_wp2
    go_ret2
    refine ⟨b, a, s + 1, rfl, .inr ⟨rfl, rfl⟩, by omega, HLA.out.far hgq _, ?_, HBA.out.setCell hBq _⟩
    have := HQA.out.set 0 (.int .i64 ((s : Int) + 1))
    simpa using this
set_option maxHeartbeats 2000000 in
theorem ordMedian (g n c a b k q s B : Nat) (d : Array Sn) (w : World) (h : Lies w g d) (hq : Blk w q 3 #[.int .i64 s]) (hgq : g ≠ q) (hn : d.size = n) (hg : B ≤ g) (hBq : B ≤ q) (ha : a < n) (hb : b < n) (hk : k < n) (hs : n ≤ 45) (hss : s ≤ 30) : Calls Try.prog 59 #[.slice (some ⟨g, 0, none⟩) n c, .int .i64 a, .int .i64 b, .int .i64 k, .pointer (some ⟨q, 0, none⟩), cmpV] w fun e w' =>
    ∃ x s' : Nat, e = .returned (.int .i64 x) ∧ (x = a ∨ x = b ∨ x = k) ∧ s' ≤ s + 3 ∧ Lies w' g d ∧ Blk w' q 3 #[.int .i64 s'] ∧ Below B w w' := by
  have ST := Lib.hid (fun (a b s : Nat) (w : World) h hq ha hb hss => ordTwo g n c a b q s B d w h hq hgq hn hg hBq ha hb hs hss)
  have H1 := Lib.hid (ST.out a b s w h hq ha hb (by omega))
  clear h hq
  unfold cmpV at *
  go_enter Try.func59, Try.ntmps59
  go_wp2_with (go_at_call 61; go_loud (refine H1.out.mono ?_; rintro e w1 ⟨x1, y1, s1, rfl, h1, h1s, L1, Q1, B1⟩; clear H1; have H2 := Lib.hid (ST.out y1 k s1 w1 L1 Q1 (by omega) (by omega) (by omega))))
  go_wp2_with (go_at_call 61; go_loud (refine H2.out.mono ?_; rintro e w2 ⟨x2, y2, s2, rfl, h2, h2s, L2, Q2, B2⟩; clear H2; have H3 := Lib.hid (ST.out x1 x2 s2 w2 L2 Q2 (by omega) (by omega) (by omega))))
  go_wp2_with (go_at_call 61; go_loud (refine H3.out.mono ?_; rintro e w3 ⟨x3, y3, s3, rfl, h3, h3s, L3, Q3, B3⟩; clear H3))
  go_ret
  exact ⟨y3, s3, rfl, by omega, by omega, L3, Q3, (B1.trans B2).trans B3⟩
end Cib
