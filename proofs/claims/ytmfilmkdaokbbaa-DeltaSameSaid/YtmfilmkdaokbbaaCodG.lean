/- The document's All, Split, Join, Same, Even; what is few. -/
import Derived.Test.YtmfilmkdaokbbaaCodF
import Derived.Test.YtmfilmkdaokbbaaCodK
set_option linter.unusedVariables false
set_option linter.unusedSimpArgs false
set_option maxRecDepth 40000
namespace Cib
open Go Go.RowKit Go.Proofs
def mayB (k m : Int) : Bool := decide (1 ≤ k ∧ 1 ≤ m ∧ k ≤ 255 ∧ m ≤ 255 - k)
theorem mayB_true {k m : Int} : mayB k m = true ↔ mayC k m := by simp [mayB, mayC]
theorem mayB_false {k m : Int} : mayB k m = false ↔ ¬ mayC k m := by rw [← mayB_true]; simp
theorem refMay5 (k m : Int) (hk : -9223372036854775808 ≤ k ∧ k ≤ 9223372036854775807) (hm : -9223372036854775808 ≤ m ∧ m ≤ 9223372036854775807) (w : World) : Calls Try.prog 9 #[.int .i64 k, .int .i64 m] w fun e w' => e = .returned (.bool (mayB k m)) ∧ w' = w := by
  by_cases h1 : 1 ≤ k
  · by_cases h2 : 1 ≤ m
    · by_cases h3 : k ≤ 255
      · by_cases h4 : m ≤ 255 - k
        · rw [show mayB k m = true from by simp [mayB, h1, h2, h3, h4]]
          go_enter Try.func9, Try.ntmps9
          go_wp2
          go_ret
          exact ⟨rfl, rfl⟩
        · rw [show mayB k m = false from by simp [mayB]; omega]
          go_enter Try.func9, Try.ntmps9
          go_wp2
          go_ret
          exact ⟨rfl, rfl⟩
      · rw [show mayB k m = false from by simp [mayB]; omega]
        go_enter Try.func9, Try.ntmps9
        go_wp2
        go_ret
        exact ⟨rfl, rfl⟩
    · rw [show mayB k m = false from by simp [mayB]; omega]
      go_enter Try.func9, Try.ntmps9
      go_wp2
      go_ret
      exact ⟨rfl, rfl⟩
  · rw [show mayB k m = false from by simp [mayB]; omega]
    go_enter Try.func9, Try.ntmps9
    go_wp2
    go_ret
    exact ⟨rfl, rfl⟩
set_option maxHeartbeats 800000 in
/-- Are rows of one length, and so many? -/
theorem refEven5 (L : List RowB) (B : Nat) (A : Option Addr) (n k : Nat) (many : Int) (w : World) (hr : Rd w B A (L.map RowB.v)) (hl : ∀ r ∈ L, r.bs.length = r.n) (hn : L.length = n) (hn2 : n ≤ maxLen) (hB : B ≤ w.heap.size) :
    Calls Try.prog 42 #[.slice A n k, .int .i64 many] w fun e w' => e = .returned (.bool (decide ((n : Int) = many) && Cod.evn (bss L))) ∧ Below w.heap.size w w' := by
  unfold maxLen at hn2
  have HR := Lib.hid hr
  have HL := Lib.hid hl
  have HN := Lib.hid hn
  have HE : Hid (Cod.evn (bss L) = true ↔ ∀ j (h : j < L.length), L[j].n = (L.map (·.n)).headD 0) := by
    show _ ↔ _
    have h0 : Cod.len0 (bss L) = (L.map (·.n)).headD 0 := by
      cases L with
      | nil => rfl
      | cons a l => simp [Cod.len0, bss, hl a (by simp)]
    rw [Cod.evn_true, h0]
    constructor
    · intro h j hj
      rw [← hl _ (List.getElem_mem hj)]
      exact h _ (List.mem_map.2 ⟨_, List.getElem_mem hj, rfl⟩)
    · intro h r hr
      obtain ⟨x, hx, rfl⟩ := List.mem_map.1 hr
      obtain ⟨j, hj, rfl⟩ := List.mem_iff_getElem.1 hx
      rw [hl _ (List.getElem_mem hj)]
      exact h j hj
  obtain ⟨E, hE⟩ : ∃ E, Hid (Cod.evn (bss L) = E) := ⟨_, rfl⟩
  rw [hE.out] at HE ⊢
  obtain ⟨x, hx⟩ : ∃ x, Hid (decide ((n : Int) = many) = x) := ⟨_, rfl⟩
  have hxx : ((n : Int) == many) = x := by rw [← hx.out]; rfl
  rw [hx.out]
  clear hr hl hn hE hx
  go_enter Try.func42, Try.ntmps42
  go_wp2
  go_loopw [5] (fun i wr => ∃ p : Nat, i = .int .i64 p ∧ p ≤ n ∧ Hid (Below w.heap.size w wr) ∧ Hid (∀ j (h : j < L.length), j < p → L[j].n = (L.map (·.n)).headD 0)) (fun i _ => n - (intOf i).toNat)
  case atStart => exact ⟨0, rfl, Nat.zero_le _, Below.refl _ _, fun j _ hj => by omega⟩
  case round =>
    obtain ⟨p, rfl, hp, HB, hI⟩ := hrel
    by_cases hlt : p < n
    · have hpl : p < L.length := by rw [HN.out]; exact hlt
      have h0l : 0 < L.length := by omega
      have hn0 : 0 < n := by omega
      obtain ⟨ad, rfl, hab, hcell⟩ := (HR.out.below (HB.out.mono hB)).row hpl
      obtain ⟨ad', e0, hab0, hcell0⟩ := (HR.out.below (HB.out.mono hB)).row h0l
      injection e0 with e0
      subst e0
      rw [addr_add_zero] at hcell0
      have h00 : Hid (L[0].n = (L.map (·.n)).headD 0) := by
        show _ = _
        cases L with
        | nil => simp at h0l
        | cons a l => rfl
      have HB3 := Lib.hid (fun N => below_drewN HB.out N)
      clear HB
      by_cases he : L[p].n = L[0].n
      · have hI2 : Hid (∀ j (h : j < L.length), j < p + 1 → L[j].n = (L.map (·.n)).headD 0) := fun j h hj => by
          by_cases hjp : j = p
          · subst hjp
            exact he.trans h00.out
          · exact hI.out j h (by omega)
        rw [he] at hcell
        clear hI he
        go_wp2
        go_region
        all_goals
          go_wp2
          go_roundw
          case rel => exact ⟨p + 1, by go_num, hlt, HB3.out _, hI2⟩
          case measure => simp [intOf]; omega
      · obtain rfl : E = false := by
          cases E with
          | false => rfl
          | true => exact absurd ((HE.out.1 rfl p hpl).trans h00.out.symm) he
        generalize L[p] = r1 at *
        generalize L[0] = r0 at *
        have hne : ((r1.n : Int) != r0.n) = true := by rw [bne_iff_ne]; omega
        clear hI h00
        go_wp2
        go_region
        all_goals
          go_wp2
          go_ret
          exact ⟨by simp, HB3.out _⟩
    · obtain rfl : p = n := by omega
      obtain rfl : E = true := HE.out.2 fun j hj => hI.out j hj (by rw [← HN.out]; exact hj)
      go_wp2
      go_ret
      exact ⟨by simp, HB.out⟩
set_option maxHeartbeats 800000 in
/-- Are rows the same? -/
theorem refSame5 (L M : List RowB) (B : Nat) (A1 A2 : Option Addr) (n1 c1 n2 c2 : Nat) (w : World) (hr1 : Rd w B A1 (L.map RowB.v)) (hR1 : RowsAt w B L) (hr2 : Rd w B A2 (M.map RowB.v)) (hR2 : RowsAt w B M) (hn1 : L.length = n1) (hn2 : M.length = n2) (hB : B ≤ w.heap.size) (hm1 : n1 ≤ maxLen) (hm2 : n2 ≤ maxLen) :
    Calls Try.prog 16 #[.slice A1 n1 c1, .slice A2 n2 c2] w fun e w' => (∃ x, e = .returned (.bool x) ∧ (x = true ↔ bss L = bss M)) ∧ Below w.heap.size w w' := by
  unfold maxLen at hm1 hm2
  by_cases hne : n1 = n2
  · subst hne
    have HR1 := Lib.hid hr1
    have HRR1 := Lib.hid hR1
    have HR2 := Lib.hid hr2
    have HRR2 := Lib.hid hR2
    have HN1 := Lib.hid hn1
    have HN2 := Lib.hid hn2
    clear hr1 hr2 hR1 hR2 hn1 hn2
    go_enter Try.func16, Try.ntmps16
    go_wp2
    go_loopw [5] (fun i wr => ∃ p : Nat, i = .int .i64 p ∧ p ≤ n1 ∧ Hid (Below w.heap.size w wr) ∧ Hid ((bss L).take p = (bss M).take p)) (fun i _ => n1 - (intOf i).toNat)
    case atStart => exact ⟨0, rfl, Nat.zero_le _, Below.refl _ _, rfl⟩
    case round =>
      obtain ⟨p, rfl, hp, HB, hI⟩ := hrel
      by_cases hlt : p < n1
      · have hp1 : p < L.length := by rw [HN1.out]; exact hlt
        have hp2 : p < M.length := by rw [HN2.out]; exact hlt
        obtain ⟨ad1, rfl, hab1, hcell1⟩ := (HR1.out.below (HB.out.mono hB)).row hp1
        obtain ⟨ad2, rfl, hab2, hcell2⟩ := (HR2.out.below (HB.out.mono hB)).row hp2
        have hq1 := (HRR1.out.get hp1).below (HB.out.mono hB)
        have hq2 := (HRR2.out.get hp2).below (HB.out.mono hB)
        have hb1 : p < (bss L).length := by simpa [bss] using hp1
        have hb2 : p < (bss M).length := by simpa [bss] using hp2
        have HT1 := Lib.hid (List.take_succ_eq_append_getElem hb1)
        have HT2 := Lib.hid (List.take_succ_eq_append_getElem hb2)
        have HG1 : Hid ((bss L)[p] = L[p].bs) := (show _ = _ by simp [bss])
        have HG2 : Hid ((bss M)[p] = M[p].bs) := (show _ = _ by simp [bss])
        rw [HG1.out] at HT1
        rw [HG2.out] at HT2
        generalize L[p] = r1 at *
        generalize M[p] = r2 at *
        obtain ⟨rA1, rn1, rc1, bs1⟩ := r1
        obtain ⟨rA2, rn2, rc2, bs2⟩ := r2
        simp only at hcell1 hcell2 HG1 HG2 HT1 HT2
        have HQ1 := Lib.hid hq1
        have HQ2 := Lib.hid hq2
        have hz := HB.out.size
        have hg1 := block_lt_of_cell hcell1
        have hg2 := block_lt_of_cell hcell2
        have HB3 := Lib.hid (below_drewN HB.out 1)
        have hca : wr.drew.cell? (ad1.add p) = some (.slice rA1 rn1 rc1) := hcell1
        have hcb : wr.drew.cell? (ad2.add p) = some (.slice rA2 rn2 rc2) := hcell2
        clear hq1 hq2 HB hcell1 hcell2
        by_cases he : bs1 = bs2
        · have hbe : (bs1 == bs2) = true := by simp [he]
          have HNX : Hid ((bss L).take (p + 1) = (bss M).take (p + 1)) := (show _ = _ by rw [HT1.out, HT2.out, hI.out, he])
          clear hI HT1 HT2 he
          go_wp2
          refine wp_region_held_drew (S := (fun wQq => Below (World.heap (wr.drew)).size (wr.drew) wQq)) (by kernel_rfl) (by exact Below.refl _ _) (fun _ => ?_)
          refine wpAnyH_take (i := 0) (v := ?_) rfl (by kernel_rfl) (by kernel_rfl) (by kernel_rfl) (fun _ _ _ h => h) (Or.inl ⟨by rfl, ?_⟩) (Below.refl _ _) ?_
          rotate_left
          · intro wS hSw
            go_simp
            try with_reducible rfl
          try simp only [List.getElem_toArray, List.getElem_cons_zero, List.getElem_cons_succ, Act.put, List.setIfInBounds_toArray, List.set_cons_zero, List.set_cons_succ]
          refine wpAnyH_take (i := 1) (v := ?_) rfl (by kernel_rfl) (by kernel_rfl) (by kernel_rfl) (fun _ _ _ h => h) (Or.inl ⟨by rfl, ?_⟩) (Below.refl _ _) ?_
          rotate_left
          · intro wS hSw
            go_simp
            try with_reducible rfl
          try simp only [List.getElem_toArray, List.getElem_cons_zero, List.getElem_cons_succ, Act.put, List.setIfInBounds_toArray, List.set_cons_zero, List.set_cons_succ]
          refine wpAnyH_take (i := 2) (v := ?_) rfl (by kernel_rfl) (by kernel_rfl) (by kernel_rfl) (fun _ _ _ h => h) (Or.inl ⟨by rfl, ?_⟩) (Below.refl _ _) ?_
          rotate_left
          · intro wS hSw
            go_simp
            try with_reducible rfl
          try simp only [List.getElem_toArray, List.getElem_cons_zero, List.getElem_cons_succ, Act.put, List.setIfInBounds_toArray, List.set_cons_zero, List.set_cons_succ]
          refine wpAnyH_take (i := 5) (v := ?_) rfl (by kernel_rfl) (by kernel_rfl) (by kernel_rfl) (fun _ _ _ h => h) (Or.inl ⟨by rfl, ?_⟩) (Below.refl _ _) ?_
          rotate_left
          · intro wS hSw
            go_simp
            try with_reducible rfl
          try simp only [List.getElem_toArray, List.getElem_cons_zero, List.getElem_cons_succ, Act.put, List.setIfInBounds_toArray, List.set_cons_zero, List.set_cons_succ]
          refine wpAnyH_take (i := 6) (v := ?_) rfl (by kernel_rfl) (by kernel_rfl) (by kernel_rfl) (fun _ _ _ h => h) (Or.inl ⟨by rfl, ?_⟩) (Below.refl _ _) ?_
          rotate_left
          · intro wS hSw
            go_simp
            try with_reducible rfl
          try simp only [List.getElem_toArray, List.getElem_cons_zero, List.getElem_cons_succ, Act.put, List.setIfInBounds_toArray, List.set_cons_zero, List.set_cons_succ]
          refine wpAnyH_take (i := 7) (v := ?_) rfl (by kernel_rfl) (by kernel_rfl) (by kernel_rfl) (fun _ _ _ h => h) (Or.inl ⟨by rfl, ?_⟩) (Below.refl _ _) ?_
          rotate_left
          · intro wS hSw
            go_simp
            try with_reducible rfl
          try simp only [List.getElem_toArray, List.getElem_cons_zero, List.getElem_cons_succ, Act.put, List.setIfInBounds_toArray, List.set_cons_zero, List.set_cons_succ]
          refine wpAnyH_take (i := 3) (v := ?_) rfl (by kernel_rfl) (by kernel_rfl) (by kernel_rfl) (fun _ _ _ h => h) (Or.inl ⟨by rfl, ?_⟩) (Below.refl _ _) ?_
          rotate_left
          · intro wS hSw
            have hcv := ((hSw.cell (p := ad1.add p) (by exact hg1)).trans hca)
            go_simp
            try with_reducible rfl
          try simp only [List.getElem_toArray, List.getElem_cons_zero, List.getElem_cons_succ, Act.put, List.setIfInBounds_toArray, List.set_cons_zero, List.set_cons_succ]
          refine wpAnyH_take (i := 4) (v := ?_) rfl (by kernel_rfl) (by kernel_rfl) (by kernel_rfl) (fun _ _ _ h => h) (Or.inl ⟨by rfl, ?_⟩) (Below.refl _ _) ?_
          rotate_left
          · intro wS hSw
            have hcv := str_run (HQ1.out.rd.drewN 1) hSw (Nat.le_trans hB hz) HQ1.out.len rc1
            go_simp
            try with_reducible rfl
          try simp only [List.getElem_toArray, List.getElem_cons_zero, List.getElem_cons_succ, Act.put, List.setIfInBounds_toArray, List.set_cons_zero, List.set_cons_succ]
          refine wpAnyH_take (i := 8) (v := ?_) rfl (by kernel_rfl) (by kernel_rfl) (by kernel_rfl) (fun _ _ _ h => h) (Or.inl ⟨by rfl, ?_⟩) (Below.refl _ _) ?_
          rotate_left
          · intro wS hSw
            have hcv := ((hSw.cell (p := ad2.add p) (by exact hg2)).trans hcb)
            go_simp
            try with_reducible rfl
          try simp only [List.getElem_toArray, List.getElem_cons_zero, List.getElem_cons_succ, Act.put, List.setIfInBounds_toArray, List.set_cons_zero, List.set_cons_succ]
          refine wpAnyH_take (i := 9) (v := ?_) rfl (by kernel_rfl) (by kernel_rfl) (by kernel_rfl) (fun _ _ _ h => h) (Or.inl ⟨by rfl, ?_⟩) (Below.refl _ _) ?_
          rotate_left
          · intro wS hSw
            have hcv := str_run (HQ2.out.rd.drewN 1) hSw (Nat.le_trans hB hz) HQ2.out.len rc2
            go_simp
            try with_reducible rfl
          try simp only [List.getElem_toArray, List.getElem_cons_zero, List.getElem_cons_succ, Act.put, List.setIfInBounds_toArray, List.set_cons_zero, List.set_cons_succ]
          refine wpAnyH_take (i := 10) (v := ?_) rfl (by kernel_rfl) (by kernel_rfl) (by kernel_rfl) (fun _ _ _ h => h) (Or.inl ⟨by rfl, ?_⟩) (Below.refl _ _) ?_
          rotate_left
          · intro wS hSw
            go_simp
            try with_reducible rfl
          try simp only [List.getElem_toArray, List.getElem_cons_zero, List.getElem_cons_succ, Act.put, List.setIfInBounds_toArray, List.set_cons_zero, List.set_cons_succ]
          refine wpAnyH_done (by kernel_rfl) ?_ _
          go_wp2
          go_roundw
          case rel => exact ⟨p + 1, by go_num, hlt, HB3.out, HNX⟩
          case measure => simp [intOf]; omega
        · have hbe : (bs1 == bs2) = false := by simp [he]
          have HNE : Hid (bss L ≠ bss M) := fun h => he (by rw [← HG1.out, ← HG2.out]; simp [h])
          clear hI HT1 HT2 he
          go_wp2
          refine wp_region_held_drew (S := (fun wQq => Below (World.heap (wr.drew)).size (wr.drew) wQq)) (by kernel_rfl) (by exact Below.refl _ _) (fun _ => ?_)
          refine wpAnyH_take (i := 0) (v := ?_) rfl (by kernel_rfl) (by kernel_rfl) (by kernel_rfl) (fun _ _ _ h => h) (Or.inl ⟨by rfl, ?_⟩) (Below.refl _ _) ?_
          rotate_left
          · intro wS hSw
            go_simp
            try with_reducible rfl
          try simp only [List.getElem_toArray, List.getElem_cons_zero, List.getElem_cons_succ, Act.put, List.setIfInBounds_toArray, List.set_cons_zero, List.set_cons_succ]
          refine wpAnyH_take (i := 1) (v := ?_) rfl (by kernel_rfl) (by kernel_rfl) (by kernel_rfl) (fun _ _ _ h => h) (Or.inl ⟨by rfl, ?_⟩) (Below.refl _ _) ?_
          rotate_left
          · intro wS hSw
            go_simp
            try with_reducible rfl
          try simp only [List.getElem_toArray, List.getElem_cons_zero, List.getElem_cons_succ, Act.put, List.setIfInBounds_toArray, List.set_cons_zero, List.set_cons_succ]
          refine wpAnyH_take (i := 2) (v := ?_) rfl (by kernel_rfl) (by kernel_rfl) (by kernel_rfl) (fun _ _ _ h => h) (Or.inl ⟨by rfl, ?_⟩) (Below.refl _ _) ?_
          rotate_left
          · intro wS hSw
            go_simp
            try with_reducible rfl
          try simp only [List.getElem_toArray, List.getElem_cons_zero, List.getElem_cons_succ, Act.put, List.setIfInBounds_toArray, List.set_cons_zero, List.set_cons_succ]
          refine wpAnyH_take (i := 5) (v := ?_) rfl (by kernel_rfl) (by kernel_rfl) (by kernel_rfl) (fun _ _ _ h => h) (Or.inl ⟨by rfl, ?_⟩) (Below.refl _ _) ?_
          rotate_left
          · intro wS hSw
            go_simp
            try with_reducible rfl
          try simp only [List.getElem_toArray, List.getElem_cons_zero, List.getElem_cons_succ, Act.put, List.setIfInBounds_toArray, List.set_cons_zero, List.set_cons_succ]
          refine wpAnyH_take (i := 6) (v := ?_) rfl (by kernel_rfl) (by kernel_rfl) (by kernel_rfl) (fun _ _ _ h => h) (Or.inl ⟨by rfl, ?_⟩) (Below.refl _ _) ?_
          rotate_left
          · intro wS hSw
            go_simp
            try with_reducible rfl
          try simp only [List.getElem_toArray, List.getElem_cons_zero, List.getElem_cons_succ, Act.put, List.setIfInBounds_toArray, List.set_cons_zero, List.set_cons_succ]
          refine wpAnyH_take (i := 7) (v := ?_) rfl (by kernel_rfl) (by kernel_rfl) (by kernel_rfl) (fun _ _ _ h => h) (Or.inl ⟨by rfl, ?_⟩) (Below.refl _ _) ?_
          rotate_left
          · intro wS hSw
            go_simp
            try with_reducible rfl
          try simp only [List.getElem_toArray, List.getElem_cons_zero, List.getElem_cons_succ, Act.put, List.setIfInBounds_toArray, List.set_cons_zero, List.set_cons_succ]
          refine wpAnyH_take (i := 3) (v := ?_) rfl (by kernel_rfl) (by kernel_rfl) (by kernel_rfl) (fun _ _ _ h => h) (Or.inl ⟨by rfl, ?_⟩) (Below.refl _ _) ?_
          rotate_left
          · intro wS hSw
            have hcv := ((hSw.cell (p := ad1.add p) (by exact hg1)).trans hca)
            go_simp
            try with_reducible rfl
          try simp only [List.getElem_toArray, List.getElem_cons_zero, List.getElem_cons_succ, Act.put, List.setIfInBounds_toArray, List.set_cons_zero, List.set_cons_succ]
          refine wpAnyH_take (i := 4) (v := ?_) rfl (by kernel_rfl) (by kernel_rfl) (by kernel_rfl) (fun _ _ _ h => h) (Or.inl ⟨by rfl, ?_⟩) (Below.refl _ _) ?_
          rotate_left
          · intro wS hSw
            have hcv := str_run (HQ1.out.rd.drewN 1) hSw (Nat.le_trans hB hz) HQ1.out.len rc1
            go_simp
            try with_reducible rfl
          try simp only [List.getElem_toArray, List.getElem_cons_zero, List.getElem_cons_succ, Act.put, List.setIfInBounds_toArray, List.set_cons_zero, List.set_cons_succ]
          refine wpAnyH_take (i := 8) (v := ?_) rfl (by kernel_rfl) (by kernel_rfl) (by kernel_rfl) (fun _ _ _ h => h) (Or.inl ⟨by rfl, ?_⟩) (Below.refl _ _) ?_
          rotate_left
          · intro wS hSw
            have hcv := ((hSw.cell (p := ad2.add p) (by exact hg2)).trans hcb)
            go_simp
            try with_reducible rfl
          try simp only [List.getElem_toArray, List.getElem_cons_zero, List.getElem_cons_succ, Act.put, List.setIfInBounds_toArray, List.set_cons_zero, List.set_cons_succ]
          refine wpAnyH_take (i := 9) (v := ?_) rfl (by kernel_rfl) (by kernel_rfl) (by kernel_rfl) (fun _ _ _ h => h) (Or.inl ⟨by rfl, ?_⟩) (Below.refl _ _) ?_
          rotate_left
          · intro wS hSw
            have hcv := str_run (HQ2.out.rd.drewN 1) hSw (Nat.le_trans hB hz) HQ2.out.len rc2
            go_simp
            try with_reducible rfl
          try simp only [List.getElem_toArray, List.getElem_cons_zero, List.getElem_cons_succ, Act.put, List.setIfInBounds_toArray, List.set_cons_zero, List.set_cons_succ]
          refine wpAnyH_take (i := 10) (v := ?_) rfl (by kernel_rfl) (by kernel_rfl) (by kernel_rfl) (fun _ _ _ h => h) (Or.inl ⟨by rfl, ?_⟩) (Below.refl _ _) ?_
          rotate_left
          · intro wS hSw
            go_simp
            try with_reducible rfl
          try simp only [List.getElem_toArray, List.getElem_cons_zero, List.getElem_cons_succ, Act.put, List.setIfInBounds_toArray, List.set_cons_zero, List.set_cons_succ]
          refine wpAnyH_done (by kernel_rfl) ?_ _
          go_wp2
          go_ret
          exact ⟨⟨false, rfl, by simpa using HNE.out⟩, HB3.out⟩
      · obtain rfl : p = n1 := by omega
        have HA1 : Hid ((bss L).take p = bss L) := (show _ = _ from List.take_of_length_le (by simp [bss, HN1.out]))
        have HA2 : Hid ((bss M).take p = bss M) := (show _ = _ from List.take_of_length_le (by simp [bss, HN2.out]))
        rw [HA1.out, HA2.out] at hI
        go_wp2
        go_ret
        exact ⟨⟨true, rfl, by simpa using hI.out⟩, HB.out⟩
  · have hno : ((n1 : Int) != (n2 : Int)) = true := by rw [bne_iff_ne]; omega
    have HNE : Hid (bss L ≠ bss M) := fun h => hne (by have := congrArg List.length h; simp [bss] at this; omega)
    clear hr1 hr2 hR1 hR2 hn1 hn2
    go_enter Try.func16, Try.ntmps16
    go_wp2
    go_ret
    exact ⟨⟨false, rfl, by simpa using HNE.out⟩, Below.refl _ _⟩
end Cib
