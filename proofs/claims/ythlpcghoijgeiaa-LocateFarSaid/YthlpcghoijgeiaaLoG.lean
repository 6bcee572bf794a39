/- Texts that are in use elsewhere, put together. -/
import Derived.Test.YthlpcghoijgeiaaLoF
import Derived.Test.YthlpcghoijgeiaaLoB
/-! CodF -/
section
set_option linter.unusedVariables false
set_option linter.unusedSimpArgs false
set_option maxRecDepth 40000
namespace Cib
open Go Go.RowKit Go.Proofs
theorem Cod.facRow_take (k i q : Nat) (h : q < k) : (Cod.facRow k i).take (q + 1) = (Cod.facRow k i).take q ++ [UInt8.ofNat (Cod.fac k i q)] := by
  rw [List.take_succ_eq_append_getElem (by rw [Cod.facRow_length]; exact h)]
  simp [Cod.facRow]
theorem Cod.shard_take (k : Nat) (D : List (List UInt8)) (i : Nat) {q : Nat} (h : q < Cod.len0 D) : (Cod.shard k D i).take (q + 1) = (Cod.shard k D i).take q ++ [UInt8.ofNat (Cod.shB k D i q D.length)] := by
  rw [List.take_succ_eq_append_getElem (by rw [Cod.shard_length]; exact h)]
  simp [Cod.shard]
theorem Cod.len0_of' {L : List RowB} (h : 0 < L.length) (hl : ∀ r ∈ L, r.bs.length = r.n) : Cod.len0 (bss L) = L[0].n := by
  rw [Cod.len0_eq (by simpa [bss] using h)]
  have := hl _ (List.getElem_mem h)
  simpa [bss] using this
end Cib

end
/-! CodK -/
section
set_option linter.unusedVariables false
set_option linter.unusedSimpArgs false
set_option maxRecDepth 40000
namespace Cib
open Go Go.RowKit Go.Proofs
/-- Bytes, and no error. -/
def NewE (bs : List UInt8) (w : World) (e : Ending) (w' : World) : Prop :=
  ∃ A n c, e = .returned (.tuple #[.slice A n c, .int .i64 0]) ∧ bs.length = n ∧ w'.ownsRow w.heap.size 5 1 (.slice A n c) n (bs.map bv) ∧ Below w.heap.size w w'
theorem Cod.len0_of {L : List RowB} (h : 0 < L.length) (hl : ∀ r ∈ L, r.bs.length = r.n) : Cod.len0 (bss L) = L[0].n := by
  rw [Cod.len0_eq (by simpa [bss] using h)]
  have := hl _ (List.getElem_mem h)
  simpa [bss] using this
theorem Cod.take_step (X r : List UInt8) (size : Nat) : (X ++ r).take size = X.take size ++ r.take (size - (X.take size).length) := by
  rw [List.take_append, List.length_take]
  congr 1
  by_cases h : size ≤ X.length
  · rw [show size - X.length = 0 from by omega, show size - min size X.length = 0 from by omega]
  · rw [Nat.min_eq_right (by omega)]
end Cib

end
/-! CodG -/
section
set_option linter.unusedVariables false
set_option linter.unusedSimpArgs false
set_option maxRecDepth 40000
namespace Cib
open Go Go.RowKit Go.Proofs
def mayB (k m : Int) : Bool := decide (1 ≤ k ∧ 1 ≤ m ∧ k ≤ 255 ∧ m ≤ 255 - k)
theorem mayB_true {k m : Int} : mayB k m = true ↔ mayC k m := by simp [mayB, mayC]
theorem mayB_false {k m : Int} : mayB k m = false ↔ ¬ mayC k m := by rw [← mayB_true]; simp
set_option maxHeartbeats 800000 in
/-- Are rows the same? -/
theorem refSame5 (L M : List RowB) (B : Nat) (A1 A2 : Option Addr) (n1 c1 n2 c2 : Nat) (w : World) (hr1 : Rd w B A1 (L.map RowB.v)) (hR1 : RowsAt w B L) (hr2 : Rd w B A2 (M.map RowB.v)) (hR2 : RowsAt w B M) (hn1 : L.length = n1) (hn2 : M.length = n2) (hB : B ≤ w.heap.size) (hm1 : n1 ≤ maxLen) (hm2 : n2 ≤ maxLen) :
    Calls Try.prog 12 #[.slice A1 n1 c1, .slice A2 n2 c2] w fun e w' => (∃ x, e = .returned (.bool x) ∧ (x = true ↔ bss L = bss M)) ∧ Below w.heap.size w w' := by
  unfold maxLen at hm1 hm2
  by_cases hne : n1 = n2
  · subst hne
    have HR1 := Lib.hid hr1
    have HRR1 := Lib.hid hR1
    have HR2 := Lib.hid hr2
    have HRR2 := Lib.hid hR2
    have HN1 := Lib.hid hn1
    have HN2 := Lib.hid hn2
    clear hr1 hr2 hR1 hR2 hn1 hn2
    go_enter Try.func12, Try.ntmps12
    go_wp2
    go_loopw [5] (fun i wr => ∃ p : Nat, i = .int .i64 p ∧ p ≤ n1 ∧ Hid (Below w.heap.size w wr) ∧ Hid ((bss L).take p = (bss M).take p)) (fun i _ => n1 - (intOf i).toNat)
    case atStart => exact ⟨0, rfl, Nat.zero_le _, Below.refl _ _, rfl⟩
    case round =>
      obtain ⟨p, rfl, hp, HB, hI⟩ := hrel
      by_cases hlt : p < n1
      · have hp1 : p < L.length := by rw [HN1.out]; exact hlt
        have hp2 : p < M.length := by rw [HN2.out]; exact hlt
        obtain ⟨ad1, rfl, hab1, hcell1⟩ := (HR1.out.below (HB.out.mono hB)).row hp1
        obtain ⟨ad2, rfl, hab2, hcell2⟩ := (HR2.out.below (HB.out.mono hB)).row hp2
        have hq1 := (HRR1.out.get hp1).below (HB.out.mono hB)
        have hq2 := (HRR2.out.get hp2).below (HB.out.mono hB)
        have hb1 : p < (bss L).length := by simpa [bss] using hp1
        have hb2 : p < (bss M).length := by simpa [bss] using hp2
        have HT1 := Lib.hid (List.take_succ_eq_append_getElem hb1)
        have HT2 := Lib.hid (List.take_succ_eq_append_getElem hb2)
        have HG1 : Hid ((bss L)[p] = L[p].bs) := (show _ = _ by simp [bss])
        have HG2 : Hid ((bss M)[p] = M[p].bs) := (show _ = _ by simp [bss])
        rw [HG1.out] at HT1
        rw [HG2.out] at HT2
        generalize L[p] = r1 at *
        generalize M[p] = r2 at *
        obtain ⟨rA1, rn1, rc1, bs1⟩ := r1
        obtain ⟨rA2, rn2, rc2, bs2⟩ := r2
        simp only at hcell1 hcell2 HG1 HG2 HT1 HT2
        have HQ1 := Lib.hid hq1
        have HQ2 := Lib.hid hq2
        have hz := HB.out.size
        have hg1 := block_lt_of_cell hcell1
        have hg2 := block_lt_of_cell hcell2
        have HB3 := Lib.hid (below_drewN HB.out 1)
        have hca : wr.drew.cell? (ad1.add p) = some (.slice rA1 rn1 rc1) := hcell1
        have hcb : wr.drew.cell? (ad2.add p) = some (.slice rA2 rn2 rc2) := hcell2
        clear hq1 hq2 HB hcell1 hcell2
        by_cases he : bs1 = bs2
        · have hbe : (bs1 == bs2) = true := by simp [he]
          have HNX : Hid ((bss L).take (p + 1) = (bss M).take (p + 1)) := (show _ = _ by rw [HT1.out, HT2.out, hI.out, he])
          clear hI HT1 HT2 he
          go_wp2
          refine wp_region_held_drew (S := (fun wQq => Below (World.heap (wr.drew)).size (wr.drew) wQq)) (by kernel_rfl) (by exact Below.refl _ _) (fun _ => ?_)
          refine wpAnyH_take (i := 0) (v := ?_) rfl (by kernel_rfl) (by kernel_rfl) (by kernel_rfl) (fun _ _ _ h => h) (Or.inl ⟨by rfl, ?_⟩) (Below.refl _ _) ?_
          rotate_left
          · intro wS hSw
            go_simp
            try with_reducible rfl
          try simp only [List.getElem_toArray, List.getElem_cons_zero, List.getElem_cons_succ, Act.put, List.setIfInBounds_toArray, List.set_cons_zero, List.set_cons_succ]
          refine wpAnyH_take (i := 1) (v := ?_) rfl (by kernel_rfl) (by kernel_rfl) (by kernel_rfl) (fun _ _ _ h => h) (Or.inl ⟨by rfl, ?_⟩) (Below.refl _ _) ?_
          rotate_left
          · intro wS hSw
            go_simp
            try with_reducible rfl
          try simp only [List.getElem_toArray, List.getElem_cons_zero, List.getElem_cons_succ, Act.put, List.setIfInBounds_toArray, List.set_cons_zero, List.set_cons_succ]
          refine wpAnyH_take (i := 2) (v := ?_) rfl (by kernel_rfl) (by kernel_rfl) (by kernel_rfl) (fun _ _ _ h => h) (Or.inl ⟨by rfl, ?_⟩) (Below.refl _ _) ?_
          rotate_left
          · intro wS hSw
            go_simp
            try with_reducible rfl
          try simp only [List.getElem_toArray, List.getElem_cons_zero, List.getElem_cons_succ, Act.put, List.setIfInBounds_toArray, List.set_cons_zero, List.set_cons_succ]
          refine wpAnyH_take (i := 5) (v := ?_) rfl (by kernel_rfl) (by kernel_rfl) (by kernel_rfl) (fun _ _ _ h => h) (Or.inl ⟨by rfl, ?_⟩) (Below.refl _ _) ?_
          rotate_left
          · intro wS hSw
            go_simp
            try with_reducible rfl
          try simp only [List.getElem_toArray, List.getElem_cons_zero, List.getElem_cons_succ, Act.put, List.setIfInBounds_toArray, List.set_cons_zero, List.set_cons_succ]
          refine wpAnyH_take (i := 6) (v := ?_) rfl (by kernel_rfl) (by kernel_rfl) (by kernel_rfl) (fun _ _ _ h => h) (Or.inl ⟨by rfl, ?_⟩) (Below.refl _ _) ?_
          rotate_left
          · intro wS hSw
            go_simp
            try with_reducible rfl
          try simp only [List.getElem_toArray, List.getElem_cons_zero, List.getElem_cons_succ, Act.put, List.setIfInBounds_toArray, List.set_cons_zero, List.set_cons_succ]
          refine wpAnyH_take (i := 7) (v := ?_) rfl (by kernel_rfl) (by kernel_rfl) (by kernel_rfl) (fun _ _ _ h => h) (Or.inl ⟨by rfl, ?_⟩) (Below.refl _ _) ?_
          rotate_left
          · intro wS hSw
            go_simp
            try with_reducible rfl
          try simp only [List.getElem_toArray, List.getElem_cons_zero, List.getElem_cons_succ, Act.put, List.setIfInBounds_toArray, List.set_cons_zero, List.set_cons_succ]
          refine wpAnyH_take (i := 3) (v := ?_) rfl (by kernel_rfl) (by kernel_rfl) (by kernel_rfl) (fun _ _ _ h => h) (Or.inl ⟨by rfl, ?_⟩) (Below.refl _ _) ?_
          rotate_left
          · intro wS hSw
            have hcv := ((hSw.cell (p := ad1.add p) (by exact hg1)).trans hca)
            go_simp
            try with_reducible rfl
          try simp only [List.getElem_toArray, List.getElem_cons_zero, List.getElem_cons_succ, Act.put, List.setIfInBounds_toArray, List.set_cons_zero, List.set_cons_succ]
          refine wpAnyH_take (i := 4) (v := ?_) rfl (by kernel_rfl) (by kernel_rfl) (by kernel_rfl) (fun _ _ _ h => h) (Or.inl ⟨by rfl, ?_⟩) (Below.refl _ _) ?_
          rotate_left
          · intro wS hSw
            have hcv := str_run (HQ1.out.rd.drewN 1) hSw (Nat.le_trans hB hz) HQ1.out.len rc1
            go_simp
            try with_reducible rfl
          try simp only [List.getElem_toArray, List.getElem_cons_zero, List.getElem_cons_succ, Act.put, List.setIfInBounds_toArray, List.set_cons_zero, List.set_cons_succ]
          refine wpAnyH_take (i := 8) (v := ?_) rfl (by kernel_rfl) (by kernel_rfl) (by kernel_rfl) (fun _ _ _ h => h) (Or.inl ⟨by rfl, ?_⟩) (Below.refl _ _) ?_
          rotate_left
          · intro wS hSw
            have hcv := ((hSw.cell (p := ad2.add p) (by exact hg2)).trans hcb)
            go_simp
            try with_reducible rfl
          try simp only [List.getElem_toArray, List.getElem_cons_zero, List.getElem_cons_succ, Act.put, List.setIfInBounds_toArray, List.set_cons_zero, List.set_cons_succ]
          refine wpAnyH_take (i := 9) (v := ?_) rfl (by kernel_rfl) (by kernel_rfl) (by kernel_rfl) (fun _ _ _ h => h) (Or.inl ⟨by rfl, ?_⟩) (Below.refl _ _) ?_
          rotate_left
          · intro wS hSw
            have hcv := str_run (HQ2.out.rd.drewN 1) hSw (Nat.le_trans hB hz) HQ2.out.len rc2
            go_simp
            try with_reducible rfl
          try simp only [List.getElem_toArray, List.getElem_cons_zero, List.getElem_cons_succ, Act.put, List.setIfInBounds_toArray, List.set_cons_zero, List.set_cons_succ]
          refine wpAnyH_take (i := 10) (v := ?_) rfl (by kernel_rfl) (by kernel_rfl) (by kernel_rfl) (fun _ _ _ h => h) (Or.inl ⟨by rfl, ?_⟩) (Below.refl _ _) ?_
          rotate_left
          · intro wS hSw
            go_simp
            try with_reducible rfl
          try simp only [List.getElem_toArray, List.getElem_cons_zero, List.getElem_cons_succ, Act.put, List.setIfInBounds_toArray, List.set_cons_zero, List.set_cons_succ]
          refine wpAnyH_done (by kernel_rfl) ?_ _
          go_wp2
          go_roundw
          case rel => exact ⟨p + 1, by go_num, hlt, HB3.out, HNX⟩
          case measure => simp [intOf]; omega
        · have hbe : (bs1 == bs2) = false := by simp [he]
          have HNE : Hid (bss L ≠ bss M) := fun h => he (by rw [← HG1.out, ← HG2.out]; simp [h])
          clear hI HT1 HT2 he
          go_wp2
          refine wp_region_held_drew (S := (fun wQq => Below (World.heap (wr.drew)).size (wr.drew) wQq)) (by kernel_rfl) (by exact Below.refl _ _) (fun _ => ?_)
          refine wpAnyH_take (i := 0) (v := ?_) rfl (by kernel_rfl) (by kernel_rfl) (by kernel_rfl) (fun _ _ _ h => h) (Or.inl ⟨by rfl, ?_⟩) (Below.refl _ _) ?_
          rotate_left
          · intro wS hSw
            go_simp
            try with_reducible rfl
          try simp only [List.getElem_toArray, List.getElem_cons_zero, List.getElem_cons_succ, Act.put, List.setIfInBounds_toArray, List.set_cons_zero, List.set_cons_succ]
          refine wpAnyH_take (i := 1) (v := ?_) rfl (by kernel_rfl) (by kernel_rfl) (by kernel_rfl) (fun _ _ _ h => h) (Or.inl ⟨by rfl, ?_⟩) (Below.refl _ _) ?_
          rotate_left
          · intro wS hSw
            go_simp
            try with_reducible rfl
          try simp only [List.getElem_toArray, List.getElem_cons_zero, List.getElem_cons_succ, Act.put, List.setIfInBounds_toArray, List.set_cons_zero, List.set_cons_succ]
          refine wpAnyH_take (i := 2) (v := ?_) rfl (by kernel_rfl) (by kernel_rfl) (by kernel_rfl) (fun _ _ _ h => h) (Or.inl ⟨by rfl, ?_⟩) (Below.refl _ _) ?_
          rotate_left
          · intro wS hSw
            go_simp
            try with_reducible rfl
          try simp only [List.getElem_toArray, List.getElem_cons_zero, List.getElem_cons_succ, Act.put, List.setIfInBounds_toArray, List.set_cons_zero, List.set_cons_succ]
          refine wpAnyH_take (i := 5) (v := ?_) rfl (by kernel_rfl) (by kernel_rfl) (by kernel_rfl) (fun _ _ _ h => h) (Or.inl ⟨by rfl, ?_⟩) (Below.refl _ _) ?_
          rotate_left
          · intro wS hSw
            go_simp
            try with_reducible rfl
          try simp only [List.getElem_toArray, List.getElem_cons_zero, List.getElem_cons_succ, Act.put, List.setIfInBounds_toArray, List.set_cons_zero, List.set_cons_succ]
          refine wpAnyH_take (i := 6) (v := ?_) rfl (by kernel_rfl) (by kernel_rfl) (by kernel_rfl) (fun _ _ _ h => h) (Or.inl ⟨by rfl, ?_⟩) (Below.refl _ _) ?_
          rotate_left
          · intro wS hSw
            go_simp
            try with_reducible rfl
          try simp only [List.getElem_toArray, List.getElem_cons_zero, List.getElem_cons_succ, Act.put, List.setIfInBounds_toArray, List.set_cons_zero, List.set_cons_succ]
          refine wpAnyH_take (i := 7) (v := ?_) rfl (by kernel_rfl) (by kernel_rfl) (by kernel_rfl) (fun _ _ _ h => h) (Or.inl ⟨by rfl, ?_⟩) (Below.refl _ _) ?_
          rotate_left
          · intro wS hSw
            go_simp
            try with_reducible rfl
          try simp only [List.getElem_toArray, List.getElem_cons_zero, List.getElem_cons_succ, Act.put, List.setIfInBounds_toArray, List.set_cons_zero, List.set_cons_succ]
          refine wpAnyH_take (i := 3) (v := ?_) rfl (by kernel_rfl) (by kernel_rfl) (by kernel_rfl) (fun _ _ _ h => h) (Or.inl ⟨by rfl, ?_⟩) (Below.refl _ _) ?_
          rotate_left
          · intro wS hSw
            have hcv := ((hSw.cell (p := ad1.add p) (by exact hg1)).trans hca)
            go_simp
            try with_reducible rfl
          try simp only [List.getElem_toArray, List.getElem_cons_zero, List.getElem_cons_succ, Act.put, List.setIfInBounds_toArray, List.set_cons_zero, List.set_cons_succ]
          refine wpAnyH_take (i := 4) (v := ?_) rfl (by kernel_rfl) (by kernel_rfl) (by kernel_rfl) (fun _ _ _ h => h) (Or.inl ⟨by rfl, ?_⟩) (Below.refl _ _) ?_
          rotate_left
          · intro wS hSw
            have hcv := str_run (HQ1.out.rd.drewN 1) hSw (Nat.le_trans hB hz) HQ1.out.len rc1
            go_simp
            try with_reducible rfl
          try simp only [List.getElem_toArray, List.getElem_cons_zero, List.getElem_cons_succ, Act.put, List.setIfInBounds_toArray, List.set_cons_zero, List.set_cons_succ]
          refine wpAnyH_take (i := 8) (v := ?_) rfl (by kernel_rfl) (by kernel_rfl) (by kernel_rfl) (fun _ _ _ h => h) (Or.inl ⟨by rfl, ?_⟩) (Below.refl _ _) ?_
          rotate_left
          · intro wS hSw
            have hcv := ((hSw.cell (p := ad2.add p) (by exact hg2)).trans hcb)
            go_simp
            try with_reducible rfl
          try simp only [List.getElem_toArray, List.getElem_cons_zero, List.getElem_cons_succ, Act.put, List.setIfInBounds_toArray, List.set_cons_zero, List.set_cons_succ]
          refine wpAnyH_take (i := 9) (v := ?_) rfl (by kernel_rfl) (by kernel_rfl) (by kernel_rfl) (fun _ _ _ h => h) (Or.inl ⟨by rfl, ?_⟩) (Below.refl _ _) ?_
          rotate_left
          · intro wS hSw
            have hcv := str_run (HQ2.out.rd.drewN 1) hSw (Nat.le_trans hB hz) HQ2.out.len rc2
            go_simp
            try with_reducible rfl
          try simp only [List.getElem_toArray, List.getElem_cons_zero, List.getElem_cons_succ, Act.put, List.setIfInBounds_toArray, List.set_cons_zero, List.set_cons_succ]
          refine wpAnyH_take (i := 10) (v := ?_) rfl (by kernel_rfl) (by kernel_rfl) (by kernel_rfl) (fun _ _ _ h => h) (Or.inl ⟨by rfl, ?_⟩) (Below.refl _ _) ?_
          rotate_left
          · intro wS hSw
            go_simp
            try with_reducible rfl
          try simp only [List.getElem_toArray, List.getElem_cons_zero, List.getElem_cons_succ, Act.put, List.setIfInBounds_toArray, List.set_cons_zero, List.set_cons_succ]
          refine wpAnyH_done (by kernel_rfl) ?_ _
          go_wp2
          go_ret
          exact ⟨⟨false, rfl, by simpa using HNE.out⟩, HB3.out⟩
      · obtain rfl : p = n1 := by omega
        have HA1 : Hid ((bss L).take p = bss L) := (show _ = _ from List.take_of_length_le (by simp [bss, HN1.out]))
        have HA2 : Hid ((bss M).take p = bss M) := (show _ = _ from List.take_of_length_le (by simp [bss, HN2.out]))
        rw [HA1.out, HA2.out] at hI
        go_wp2
        go_ret
        exact ⟨⟨true, rfl, by simpa using hI.out⟩, HB.out⟩
  · have hno : ((n1 : Int) != (n2 : Int)) = true := by rw [bne_iff_ne]; omega
    have HNE : Hid (bss L ≠ bss M) := fun h => hne (by have := congrArg List.length h; simp [bss] at this; omega)
    clear hr1 hr2 hR1 hR2 hn1 hn2
    go_enter Try.func12, Try.ntmps12
    go_wp2
    go_ret
    exact ⟨⟨false, rfl, by simpa using HNE.out⟩, Below.refl _ _⟩
end Cib

end
/-! CodH -/
section
set_option linter.unusedVariables false
set_option linter.unusedSimpArgs false
set_option maxRecDepth 40000
namespace Cib
open Go Go.RowKit Go.Proofs
theorem Cod.shards_next (k : Nat) (D : List (List UInt8)) (p : Nat) : Cod.shards k D (p + 1) = Cod.shards k D p ++ [Cod.shard k D p] := by simp [Cod.shards, List.range_succ]
/-- Rows that are made one behind the other. -/
structure MadeI (w : World) (D : List (List UInt8)) (A : Option Addr) (c : Nat) (L : List RowB) (wr : World) : Prop where
  bs : L.map (·.bs) = D
  own : wr.ownsRow w.heap.size 22 1 (.slice A D.length c) D.length (L.map RowB.v)
  rows : RowsNew wr w.heap.size L
  below : Below w.heap.size w wr
theorem MadeI.len {w wr : World} {c : Nat} {D : List (List UInt8)} {A : Option Addr} {L : List RowB} (h : MadeI w D A c L wr) : L.length = D.length := by
  have := congrArg List.length h.bs
  rwa [List.length_map] at this
theorem MadeI.nil (w wr : World) (c : Nat) (hb : Below w.heap.size w wr) : MadeI w [] none 0 [] wr := ⟨rfl, World.ownsRow_nil _ _ _ _, RowsNew.nil, hb⟩
theorem MadeI.keep {w wr w2 : World} {c : Nat} {D : List (List UInt8)} {A : Option Addr} {L : List RowB} (h : MadeI w D A c L wr) (hb : Below wr.heap.size wr w2) : MadeI w D A c L w2 := ⟨h.bs, own_via h.own hb, h.rows.below hb, h.below.via hb⟩
theorem MadeI.push {w wr w2 w3 : World} {c : Nat} {D : List (List UInt8)} {A A3 : Option Addr} {c3 : Nat} {L : List RowB} (h : MadeI w D A c L wr) {r : RowB} {x : List UInt8} (hr : r.bs = x) (hb : Below wr.heap.size wr w2)
    (ho : w2.ownsRow wr.heap.size 5 1 (.slice r.A r.n r.c) r.n (r.bs.map bv))
    (ho3 : w3.ownsRow w.heap.size 22 1 (.slice A3 (D.length + 1) c3) (D.length + 1) (L.map RowB.v ++ [r.v])) (hg : (w2.alloc (.cells #[r.v] 22)).grownBy w3 (Value.slice A D.length c).ownBlock) (hb3 : Below w.heap.size (w2.alloc (.cells #[r.v] 22)) w3) :
    MadeI w (D ++ [x]) A3 c3 (L ++ [r]) w3 where
  bs := by rw [List.map_append, h.bs, ← hr]; rfl
  own := by rw [List.map_append, List.length_append]; exact ho3
  rows := ((h.rows.push hb h.below.size ho).below ((Below.refl _ _).alloc (Nat.le_refl _) _)).grown hg ((own_via h.own hb).alloc _) rowNe
  below := ((h.below.via hb).alloc (h.below.via hb).size _).trans hb3
theorem below_of_drew {B : Nat} {w w' : World} (h : Below B w w') : Below B w.drew w' := ⟨h.os, h.tape, h.output, h.size, h.block⟩
/-- The sum of two rows, as far as both go. -/
def addB (a b : List UInt8) : List UInt8 := List.zipWith (fun x y => UInt8.ofNat (x.toNat ^^^ y.toNat)) a b
theorem addB_length (a b : List UInt8) : (addB a b).length = min a.length b.length := by simp [addB]
theorem addB_take (a b : List UInt8) {q : Nat} (h1 : q < a.length) (h2 : q < b.length) : (addB a b).take (q + 1) = (addB a b).take q ++ [UInt8.ofNat (a[q].toNat ^^^ b[q].toNat)] := by
  rw [List.take_succ_eq_append_getElem (by rw [addB_length]; omega)]
  simp [addB]
/-- What is left of 3000 bytes behind some rows. -/
def leftTo (l : List Nat) : Nat → Int
  | 0 => 3000
  | p + 1 => leftTo l p - (min (l.getD p 0) 4000 : Nat)
/-- Few rows, and short ones? -/
def fewB (l : List Nat) : Bool := decide (l.length ≤ 260) && decide (0 ≤ leftTo l l.length)
theorem leftTo_le (l : List Nat) : ∀ p, leftTo l p ≤ 3000 ∧ -4000 * (p : Int) ≤ leftTo l p
  | 0 => by simp [leftTo]
  | p + 1 => by
    have := leftTo_le l p
    simp only [leftTo]
    omega
theorem leftTo_all (l : List Nat) : ∀ p, 0 ≤ leftTo l p → ∀ j, j < p → l.getD j 0 ≤ 3000
  | 0, _, j, hj => by omega
  | p + 1, h, j, hj => by
    have h1 := (leftTo_le l p).1
    simp only [leftTo] at h
    by_cases hjp : j = p
    · subst hjp
      omega
    · exact leftTo_all l p (by omega) j (by omega)
theorem fewB_true {l : List Nat} (h : fewB l = true) : l.length ≤ 260 ∧ ∀ x ∈ l, x ≤ 3000 := by
  simp only [fewB, Bool.and_eq_true, decide_eq_true_eq] at h
  refine ⟨h.1, fun x hx => ?_⟩
  obtain ⟨j, hj, rfl⟩ := List.mem_iff_getElem.1 hx
  have := leftTo_all l _ h.2 j hj
  simpa [List.getD, hj] using this
/-- The rows' lengths. -/
def lns (L : List RowB) : List Nat := L.map (·.n)
set_option maxHeartbeats 800000 in
theorem lawFew5 (v : Value) (L : List RowB) (B : Nat) (A : Option Addr) (n k : Nat) (w : World) (hr : Rd w B A (L.map RowB.v)) (hn : L.length = n) (hn2 : n ≤ maxLen) (hm : ∀ r ∈ L, r.n ≤ maxLen) :
    Calls Try.prog 13 #[v, .slice A n k] w fun e w' => e = .returned (.bool (fewB (lns L))) ∧ w' = w := by
  unfold maxLen at hn2 hm
  have HR := Lib.hid hr
  have HN := Lib.hid hn
  have HM := Lib.hid hm
  have HLL : Hid ((lns L).length = n) := (show _ = _ by simp [lns, hn])
  obtain ⟨F, hF⟩ : ∃ F, Hid (fewB (lns L) = F) := ⟨_, rfl⟩
  rw [hF.out]
  clear hr hn hm
  go_enter Try.func13, Try.ntmps13
  go_wp2
  go_loopw [5, 6] (fun l i wr => ∃ (p : Nat) (x : Int), i = .int .i64 p ∧ p ≤ n ∧ p ≤ 300 ∧ l = .int .i64 x ∧ x ≤ 3000 ∧ -4000 * (p : Int) ≤ x ∧ wr = w ∧ Hid (x = leftTo (lns L) p)) (fun _ i _ => n - (intOf i).toNat)
  case atStart => exact ⟨0, 3000, rfl, Nat.zero_le _, by omega, rfl, by omega, by omega, rfl, rfl⟩
  case round =>
    obtain ⟨p, x, rfl, hp, hp3, rfl, hx1, hx2, rfl, HI⟩ := hrel
    by_cases hlt : p < n
    · by_cases h300 : p < 300
      · have hpl : p < L.length := by rw [HN.out]; exact hlt
        obtain ⟨ad, rfl, hab, hcell⟩ := HR.out.row hpl
        have hmq := HM.out _ (List.getElem_mem hpl)
        have HNX : Hid (leftTo (lns L) (p + 1) = x - (min L[p].n 4000 : Nat)) := by
          show _ = _
          rw [leftTo, ← HI.out]
          simp [lns, List.getD, hpl]
        generalize L[p] = r at *
        by_cases h4 : 4000 < r.n
        · have HNY : Hid (x - 4000 = leftTo (lns L) (p + 1)) := (show _ = _ by rw [HNX.out]; omega)
          clear HNX HI
          go_wp2
          go_roundw
          case rel => exact ⟨p + 1, x - 4000, by go_num, hlt, h300, rfl, by omega, by omega, by first | rfl | trivial, HNY⟩
          case measure => simp [intOf]; omega
        · have HNY : Hid (x - (r.n : Int) = leftTo (lns L) (p + 1)) := (show _ = _ by rw [HNX.out]; omega)
          clear HNX HI
          go_wp2
          go_roundw
          case rel => exact ⟨p + 1, x - (r.n : Int), by go_num, hlt, h300, rfl, by omega, by omega, by first | rfl | trivial, HNY⟩
          case measure => simp [intOf]; omega
      · have hb : decide ((p : Int) < 300) = false := by simp; omega
        have hn3 : ¬ n ≤ 260 := by omega
        obtain rfl : false = F := by rw [← hF.out]; simp [fewB, HLL.out, hn3]
        go_wp2
        go_ret
        exact ⟨rfl, rfl⟩
    · obtain rfl : p = n := by omega
      by_cases hn260 : p ≤ 260
      · by_cases h0 : 0 ≤ x
        · obtain rfl : true = F := by rw [← hF.out]; simp [fewB, HLL.out, hn260, ← HI.out, h0]
          go_wp2
          go_ret
          exact ⟨rfl, rfl⟩
        · obtain rfl : false = F := by rw [← hF.out]; simp [fewB, HLL.out, ← HI.out]; omega
          have h0' : decide (0 ≤ x) = false := by simp; omega
          go_wp2
          go_ret
          exact ⟨rfl, rfl⟩
      · obtain rfl : false = F := by rw [← hF.out]; simp [fewB, HLL.out, hn260]
        go_wp2
        go_ret
        exact ⟨rfl, rfl⟩
end Cib

end
/-! CodI -/
section
set_option linter.unusedVariables false
set_option linter.unusedSimpArgs false
set_option maxRecDepth 40000
namespace Cib
open Go Go.RowKit Go.Proofs
/-- A row of noughts, of which the first q are a text's. -/
theorem Cod.pad_set (t : List UInt8) (W q : Nat) (h : q < t.length) (hW : t.length ≤ W) : (Cod.pad (t.take q) W).set q t[q] = Cod.pad (t.take (q + 1)) W := by
  unfold Cod.pad
  rw [List.set_append_right _ _ (by rw [List.length_take]; omega), List.length_take, Nat.min_eq_left (by omega), Nat.sub_self, show W - q = (W - (q + 1)) + 1 from by omega, List.replicate_succ, List.set_cons_zero, List.take_succ_eq_append_getElem h, List.append_assoc, List.length_append, List.length_take, Nat.min_eq_left (by omega)]
  rfl
end Cib

end
/-! CodO -/
section
set_option linter.unusedVariables false
set_option linter.unusedSimpArgs false
set_option maxRecDepth 40000
namespace Cib
open Go Go.RowKit Go.Proofs
/-- The first of a slice's bytes, of the call's own. -/
theorem own_take {w : World} {base : Nat} {e : TypeId} {A : Option Addr} {n c s : Nat} {bs : List UInt8} (h : w.ownsRow base e 1 (.slice A n c) n (bs.map bv)) (hs : s ≤ n) (hl : bs.length = n) : w.ownsRow base e 1 (.slice A s c) s ((bs.take s).map bv) := by
  refine ⟨by simp [hl]; omega, ?_⟩
  rcases h.2 with ⟨h0, h1⟩ | ⟨g, cap, cur, hv, h1, h2, h3, h4, h5, h6⟩
  · injection h0 with h0 h01 h02
    subst h0 h02
    have : s = 0 := by omega
    exact .inl ⟨by rw [this], this⟩
  · injection hv with h0 h01 h02
    subst h0 h02
    refine .inr ⟨g, _, cur, rfl, h1, h2, by omega, h4, h5, ?_⟩
    rw [Nat.mul_one] at h6 ⊢
    rw [List.map_take, ← h6, List.take_take, Nat.min_eq_left hs]
/-- What Join answers: bytes, or none. -/
def JoinR (ok : Bool) (bs : List UInt8) (w : World) (e : Ending) (w' : World) : Prop :=
  if ok then NewE bs w e w' else e = .returned (.tuple #[.slice none 0 0, .int .i64 2]) ∧ Below w.heap.size w w'
theorem JoinR.no {bs : List UInt8} {w w' : World} {e : Ending} (h : e = .returned (.tuple #[.slice none 0 0, .int .i64 2])) (hb : Below w.heap.size w w') : JoinR false bs w e w' := by
  unfold JoinR
  rw [if_neg (by decide)]
  exact ⟨h, hb⟩
theorem JoinR.yes {bs : List UInt8} {w w' : World} {e : Ending} (h : NewE bs w e w') : JoinR true bs w e w' := by
  unfold JoinR
  rw [if_pos rfl]
  exact h
end Cib

end
