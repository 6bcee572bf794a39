/- The law MatrixInverts: of less than full rank. -/
import Derived.Test.YtnicfpkadiamaaaMatL2
set_option linter.unusedVariables false
set_option linter.unusedSimpArgs false
set_option maxRecDepth 40000
namespace Cib
open Go Go.RowKit Go.Proofs
set_option maxHeartbeats 2000000 in
theorem lawInvertsLow (N : Nat) (A : Option Addr) (n k : Nat) (bs : List UInt8) (w : World) (h : Rd w w.heap.size A (bs.map bv)) (hbs : bs.length = N * N) (hn : n = N * N) (hk : n ≤ k) (hm : k ≤ maxLen) (h150 : n ≤ 150) (hN1 : 1 ≤ N) (hN2 : N ≤ 255) (hlow : Lin.rankF N N bs < N) :
    Calls Try.prog 3 #[.agg (mv N N A n k)] w fun e w' => e = .returned (.bool true) ∧ Below w.heap.size w w' := by
  have HS := Lib.hid (fun W => lawStands W)
  have hal : Below w.heap.size w (w.alloc (.cells (mv N N A n k) 24)) := (Below.refl _ _).alloc (Nat.le_refl _) _
  have HAL := Lib.hid hal
  have HM := Lib.hid (Blk.new w 24 (mv N N A n k))
  have HF := Lib.hid fun W => lawFew4 N N A n k (Nat.le_trans hk hm) W
  rw [decide_eq_true h150] at HF
  have hpos : 0 < bs.length := by rw [hbs]; exact Nat.mul_pos hN1 hN1
  have HIV := Lib.hid fun g W (hW : Fld W g) (hb : Below w.heap.size w W) (hg : w.heap.size ≤ g) => (by
    have := matInvert g N A k bs W hW ((h.below hb).more hb.size) (apart_of h hpos hg) hbs (by omega) hN1 hN2
    rw [← hn] at this
    exact this.mono fun e w' hi => by
      rcases hi with ⟨X, hX, _⟩ | ⟨r, _, _, hno⟩
      · have := hX.full (Lin.rankF_rk hbs)
        omega
      · exact hno : Calls Try.prog 12 #[.pointer (some ⟨g, 0, none⟩), .agg (mv N N A n k)] W (NoM g 40 W))
  have HRG := Lib.hid fun W => refRight4 N N A n k W
  rw [show mr (N : Int) (N : Int) n = true from mr_true.2 ⟨by omega, by omega, by rw [hn]; simp⟩] at HRG
  have HRK := Lib.hid fun g W (hW : Fld W g) (hb : Below w.heap.size w W) (hg : w.heap.size ≤ g) => matRank g N N A k bs W hW ((h.below hb).more hb.size) (apart_of h hpos hg) hbs (by omega) hN1 hN2 hN1 hN2
  rw [← hn] at HRK
  have HRR := Lib.hid fun W (hb : Below w.heap.size w W) => refRank4 N N A n k bs W w.heap.size hb.size (h.below hb) hbs hn hk hN1 hN2 hN1 hN2
  generalize Lin.rankF N N bs = K at *
  unfold mv at HAL HM HF HRG HIV HRK HRR ⊢
  clear hal h hn hbs hpos
  go_enter Try.func3, Try.ntmps3
  go_wp2_with fail
  refine (HF.out _).mono ?_
  rintro e w2 ⟨rfl, hb2⟩
  have HM2 := Lib.hid (HM.out.below hb2 HM.out.lt)
  have HB2 := Lib.hid (HAL.out.via hb2)
  clear hb2
  go_wp2_with fail
  refine (fldNewA w2).mono ?_
  rintro e w3 ⟨rfl, hf3, hs3, hb3⟩
  have HF3 := Lib.hid hf3
  have hb23 := hb3 w2.heap.size w2 (Nat.le_refl _) (Below.refl _ _)
  have HM3 := Lib.hid (HM2.out.below hb23 HM2.out.lt)
  have HB3 := Lib.hid (HB2.out.via hb23)
  have hz2 := HB2.out.size
  have hlm := HM2.out.lt
  have m0 := HM3.out.cell 0
  have m1 := HM3.out.cell 1
  have m2 := HM3.out.cell 2
  simp only [List.getElem?_toArray, List.getElem?_cons_zero, List.getElem?_cons_succ] at m0 m1 m2
  clear hf3 hs3 hb3 hb23
  go_wp2_with fail
  refine (HIV.out _ _ HF3.out HB3.out hz2).mono ?_
  rintro e w4 ⟨rfl, hs4⟩
  have HM4 : Hid (Blk (w4.alloc (.cells #[.int .i64 0, .int .i64 0, .slice none 0 0] 24)) w.heap.size 24 #[.int .i64 N, .int .i64 N, .slice A n k]) := Lib.hid (Blk.alloc (w := w4) ((hs4.oth w.heap.size HM3.out.lt (by omega)).trans HM3.out) _)
  have HX4 := Lib.hid (Blk.new w4 24 #[.int .i64 0, .int .i64 0, .slice none 0 0])
  have hb4 := hs4.below HB3.out hz2 HB3.out.size
  have hlt4 : w.heap.size < w4.heap.size := Nat.lt_of_lt_of_le HM3.out.lt hs4.size
  have hal4 := (Below.refl w4.heap.size w4).alloc (Nat.le_refl _) (.cells #[.int .i64 0, .int .i64 0, .slice none 0 0] 24)
  have HB4 := Lib.hid (hb4.via hal4)
  have HF4 := Lib.hid (hs4.full.on hal4)
  clear hs4 hb4 hal4 m0 m1 m2
  have n0 := HM4.out.cell 0
  have n1 := HM4.out.cell 1
  have n2 := HM4.out.cell 2
  simp only [List.getElem?_toArray, List.getElem?_cons_zero, List.getElem?_cons_succ] at n0 n1 n2
  unfold mv
  go_upto_region 5 with fail
  generalize w4.alloc _ = w5 at *
  generalize hg4 : w4.heap.size = g4 at *
  clear hg4
  go_wp2_with fail
  refine (HRG.out _).mono ?_
  rintro e w6 ⟨rfl, hb6⟩
  have HM6 := Lib.hid (HM4.out.below hb6 HM4.out.lt)
  have HX6 := Lib.hid (HX4.out.below hb6 HX4.out.lt)
  have HB6 := Lib.hid (HB4.out.via hb6)
  have HF6 := Lib.hid (HF4.out.on hb6)
  have m0 := HM6.out.cell 0
  have m1 := HM6.out.cell 1
  simp only [List.getElem?_toArray, List.getElem?_cons_zero, List.getElem?_cons_succ] at m0 m1
  have hl6 := HM6.out.lt
  have hc0 : Hid (w6.cell? ⟨w.heap.size, 0, none⟩ = some (.int .i64 (N : Int))) := Lib.hid (HM6.out.cell 0)
  have hc1 : Hid (w6.cell? ⟨w.heap.size, 1, none⟩ = some (.int .i64 (N : Int))) := Lib.hid (HM6.out.cell 1)
  have hc2 : Hid (w6.cell? ⟨w.heap.size, 2, none⟩ = some (.slice A n k)) := Lib.hid (HM6.out.cell 2)
  clear hb6 n0 n1 n2 HM4 HX4 HB4 HF4
  go_wp2
  clear m0 m1
  refine wp_region_held_drew (S := (fun wQq => Below (World.heap (w6.drew)).size (w6.drew) wQq)) (by kernel_rfl) (by exact Below.refl _ _) (fun _ => ?_)
  refine wpAnyH_take (i := 2) (v := ?_) rfl (by kernel_rfl) (by kernel_rfl) (by kernel_rfl) (fun _ _ _ h => h) (Or.inl ⟨by rfl, ?_⟩) (Below.refl _ _) ?_
  rotate_left
  · intro wS hSw
    go_simp
    try with_reducible rfl
  try simp only [List.getElem_toArray, List.getElem_cons_zero, List.getElem_cons_succ, Act.put, List.setIfInBounds_toArray, List.set_cons_zero, List.set_cons_succ]
  refine wpAnyH_take (i := 0) (v := ?_) rfl (by kernel_rfl) (by kernel_rfl) (by kernel_rfl) (fun _ _ _ h => h) (Or.inl ⟨by rfl, ?_⟩) (Below.refl _ _) ?_
  rotate_left
  · intro wS hSw
    have hcv := ((hSw.cell (p := ⟨w.heap.size, 0, none⟩) (by exact hl6)).trans hc0.out)
    have hcv1 := ((hSw.cell (p := ⟨w.heap.size, 1, none⟩) (by exact hl6)).trans hc1.out)
    have hcv2 := ((hSw.cell (p := ⟨w.heap.size, 2, none⟩) (by exact hl6)).trans hc2.out)
    go_simp
    try with_reducible rfl
  try simp only [List.getElem_toArray, List.getElem_cons_zero, List.getElem_cons_succ, Act.put, List.setIfInBounds_toArray, List.set_cons_zero, List.set_cons_succ]
  refine wpAnyH_take (i := 3) (v := ?_) rfl (by kernel_rfl) (by kernel_rfl) (by kernel_rfl) (fun _ _ _ h => h) (Or.inl ⟨by rfl, ?_⟩) (Below.refl _ _) ?_
  rotate_left
  · intro wS hSw
    have hcv := ((hSw.cell (p := ⟨w.heap.size, 0, none⟩) (by exact hl6)).trans hc0.out)
    go_simp
    try with_reducible rfl
  try simp only [List.getElem_toArray, List.getElem_cons_zero, List.getElem_cons_succ, Act.put, List.setIfInBounds_toArray, List.set_cons_zero, List.set_cons_succ]
  refine wpAnyH_ready (rs := [1]) (by kernel_rfl) (by simp) ?_
  refine AllReadyH.cons rfl (fun K hK => ?_) AllReadyH.nil
  go_simp
  refine (HRR.out _ (below_drewN HB6.out 1)).mono ?_
  rintro e w7 ⟨rfl, hb7⟩
  have HB7 : Hid (Below w6.drew.heap.size w6.drew w7) := Lib.hid hb7
  clear hb7
  refine hK.out _ _ HB7.out (fun _ => ?_)
  clear hK K
  try simp only [List.getElem_toArray, List.getElem_cons_zero, List.getElem_cons_succ, Act.put, List.setIfInBounds_toArray, List.set_cons_zero, List.set_cons_succ]
  refine wpAnyH_take (i := 4) (v := ?_) rfl (by kernel_rfl) (by kernel_rfl) (by kernel_rfl) (fun _ _ _ h => h) (Or.inl ⟨by rfl, ?_⟩) HB7.out ?_
  rotate_left
  · intro wS hSw
    go_simp
    try with_reducible rfl
  try simp only [List.getElem_toArray, List.getElem_cons_zero, List.getElem_cons_succ, Act.put, List.setIfInBounds_toArray, List.set_cons_zero, List.set_cons_succ]
  refine wpAnyH_done (by kernel_rfl) ?_ _
  have hb67 := (below_drewN (Below.refl w6.heap.size w6) 1).trans HB7.out
  have HM7 := Lib.hid (HM6.out.below hb67 HM6.out.lt)
  have HX7 := Lib.hid (HX6.out.below hb67 HX6.out.lt)
  have HBW := Lib.hid (HB6.out.via hb67)
  have HF7 := Lib.hid (HF6.out.on hb67)
  have hl7 := HM7.out.lt
  have hx7 := HX7.out.lt
  have hc0 : Hid (w7.cell? ⟨w.heap.size, 0, none⟩ = some (.int .i64 (N : Int))) := Lib.hid (HM7.out.cell 0)
  have hc1 : Hid (w7.cell? ⟨w.heap.size, 1, none⟩ = some (.int .i64 (N : Int))) := Lib.hid (HM7.out.cell 1)
  have hc2 : Hid (w7.cell? ⟨w.heap.size, 2, none⟩ = some (.slice A n k)) := Lib.hid (HM7.out.cell 2)
  have hd0 : Hid (w7.cell? ⟨g4, 0, none⟩ = some (.int .i64 0)) := Lib.hid (HX7.out.cell 0)
  have hd1 : Hid (w7.cell? ⟨g4, 1, none⟩ = some (.int .i64 0)) := Lib.hid (HX7.out.cell 1)
  have hd2 : Hid (w7.cell? ⟨g4, 2, none⟩ = some (.slice none 0 0)) := Lib.hid (HX7.out.cell 2)
  have HCB := Lib.hid fun W (hW : Below w7.drew.heap.size w7.drew W) => ((below_drewN HBW.out 1).trans (hW.mono HBW.out.size) : Below w.heap.size w W)
  have HRK2 := Lib.hid fun W (hW : Below w7.drew.heap.size w7.drew W) => (by
    have hf := Full.on (w := w7.drew) HF7.out hW
    exact (HRK.out w2.heap.size W hf.fld (HCB.out W hW) hz2).mono fun e w' ⟨he, hs⟩ => ⟨he, hs.bel hf⟩ : Calls Try.prog 16 #[.pointer (some ⟨w2.heap.size, 0, none⟩), .agg #[.int .i64 N, .int .i64 N, .slice A n k]] W fun e w' => e = .returned (.int .i64 (K : Int)) ∧ Below W.heap.size W w')
  have HB0 : Hid (Below w7.drew.heap.size w7.drew w7.drew) := Lib.hid (Below.refl _ _)
  clear hb67 HB7
  go_wp2
  refine wp_region_held_drew (S := (fun wQq => Below (World.heap (w7.drew)).size (w7.drew) wQq)) (by kernel_rfl) (by exact Below.refl _ _) (fun _ => ?_)
  refine wpAnyH_take (i := 0) (v := ?_) rfl (by kernel_rfl) (by kernel_rfl) (by kernel_rfl) (fun _ _ _ h => h) (Or.inl ⟨by rfl, ?_⟩) (Below.refl _ _) ?_
  rotate_left
  · intro wS hSw
    go_simp
    try with_reducible rfl
  try simp only [List.getElem_toArray, List.getElem_cons_zero, List.getElem_cons_succ, Act.put, List.setIfInBounds_toArray, List.set_cons_zero, List.set_cons_succ]
  refine wpAnyH_take (i := 1) (v := ?_) rfl (by kernel_rfl) (by kernel_rfl) (by kernel_rfl) (fun _ _ _ h => h) (Or.inl ⟨by rfl, ?_⟩) (Below.refl _ _) ?_
  rotate_left
  · intro wS hSw
    go_simp
    try with_reducible rfl
  try simp only [List.getElem_toArray, List.getElem_cons_zero, List.getElem_cons_succ, Act.put, List.setIfInBounds_toArray, List.set_cons_zero, List.set_cons_succ]
  refine wpAnyH_take (i := 2) (v := ?_) rfl (by kernel_rfl) (by kernel_rfl) (by kernel_rfl) (fun _ _ _ h => h) (Or.inl ⟨by rfl, ?_⟩) (Below.refl _ _) ?_
  rotate_left
  · intro wS hSw
    go_simp
    try with_reducible rfl
  try simp only [List.getElem_toArray, List.getElem_cons_zero, List.getElem_cons_succ, Act.put, List.setIfInBounds_toArray, List.set_cons_zero, List.set_cons_succ]
  refine wpAnyH_take (i := 4) (v := ?_) rfl (by kernel_rfl) (by kernel_rfl) (by kernel_rfl) (fun _ _ _ h => h) (Or.inl ⟨by rfl, ?_⟩) (Below.refl _ _) ?_
  rotate_left
  · intro wS hSw
    go_simp
    try with_reducible rfl
  try simp only [List.getElem_toArray, List.getElem_cons_zero, List.getElem_cons_succ, Act.put, List.setIfInBounds_toArray, List.set_cons_zero, List.set_cons_succ]
  refine wpAnyH_take (i := 3) (v := ?_) rfl (by kernel_rfl) (by kernel_rfl) (by kernel_rfl) (fun _ _ _ h => h) (Or.inl ⟨by rfl, ?_⟩) (Below.refl _ _) ?_
  rotate_left
  · intro wS hSw
    have hcv := ((hSw.cell (p := ⟨g4, 0, none⟩) (by exact hx7)).trans hd0.out)
    have hcv1 := ((hSw.cell (p := ⟨g4, 1, none⟩) (by exact hx7)).trans hd1.out)
    have hcv2 := ((hSw.cell (p := ⟨g4, 2, none⟩) (by exact hx7)).trans hd2.out)
    go_simp
    try with_reducible rfl
  try simp only [List.getElem_toArray, List.getElem_cons_zero, List.getElem_cons_succ, Act.put, List.setIfInBounds_toArray, List.set_cons_zero, List.set_cons_succ]
  refine wpAnyH_ready (rs := [5]) (by kernel_rfl) (by simp) ?_
  refine AllReadyH.cons rfl (fun K hK => ?_) AllReadyH.nil
  go_simp
  refine (same_none _).mono ?_
  rintro e w8 ⟨rfl, hb8⟩
  have HB8 : Hid (Below w7.drew.heap.size w7.drew w8) := Lib.hid hb8
  clear hb8
  refine hK.out _ _ HB8.out (fun _ => ?_)
  clear hK K
  try simp only [List.getElem_toArray, List.getElem_cons_zero, List.getElem_cons_succ, Act.put, List.setIfInBounds_toArray, List.set_cons_zero, List.set_cons_succ]
  refine wpAnyH_take (i := 6) (v := ?_) rfl (by kernel_rfl) (by kernel_rfl) (by kernel_rfl) (fun _ _ _ h => h) (Or.inl ⟨by rfl, ?_⟩) HB8.out ?_
  rotate_left
  · intro wS hSw
    go_simp
    try with_reducible rfl
  try simp only [List.getElem_toArray, List.getElem_cons_zero, List.getElem_cons_succ, Act.put, List.setIfInBounds_toArray, List.set_cons_zero, List.set_cons_succ]
  refine wpAnyH_take (i := 7) (v := ?_) rfl (by kernel_rfl) (by kernel_rfl) (by kernel_rfl) (fun _ _ _ h => h) (Or.inl ⟨by rfl, ?_⟩) HB8.out ?_
  rotate_left
  · intro wS hSw
    go_simp
    try with_reducible rfl
  try simp only [List.getElem_toArray, List.getElem_cons_zero, List.getElem_cons_succ, Act.put, List.setIfInBounds_toArray, List.set_cons_zero, List.set_cons_succ]
  refine wpAnyH_take (i := 8) (v := ?_) rfl (by kernel_rfl) (by kernel_rfl) (by kernel_rfl) (fun _ _ _ h => h) (Or.inl ⟨by rfl, ?_⟩) HB8.out ?_
  rotate_left
  · intro wS hSw
    go_simp
    try with_reducible rfl
  try simp only [List.getElem_toArray, List.getElem_cons_zero, List.getElem_cons_succ, Act.put, List.setIfInBounds_toArray, List.set_cons_zero, List.set_cons_succ]
  refine wpAnyH_take (i := 9) (v := ?_) rfl (by kernel_rfl) (by kernel_rfl) (by kernel_rfl) (fun _ _ _ h => h) (Or.inl ⟨by rfl, ?_⟩) HB8.out ?_
  rotate_left
  · intro wS hSw
    have hcv := ((hSw.cell (p := ⟨w.heap.size, 0, none⟩) (by exact hl7)).trans hc0.out)
    have hcv1 := ((hSw.cell (p := ⟨w.heap.size, 1, none⟩) (by exact hl7)).trans hc1.out)
    have hcv2 := ((hSw.cell (p := ⟨w.heap.size, 2, none⟩) (by exact hl7)).trans hc2.out)
    go_simp
    try with_reducible rfl
  try simp only [List.getElem_toArray, List.getElem_cons_zero, List.getElem_cons_succ, Act.put, List.setIfInBounds_toArray, List.set_cons_zero, List.set_cons_succ]
  refine wpAnyH_take (i := 11) (v := ?_) rfl (by kernel_rfl) (by kernel_rfl) (by kernel_rfl) (fun _ _ _ h => h) (Or.inl ⟨by rfl, ?_⟩) HB8.out ?_
  rotate_left
  · intro wS hSw
    have hcv := ((hSw.cell (p := ⟨w.heap.size, 0, none⟩) (by exact hl7)).trans hc0.out)
    have hcv1 := ((hSw.cell (p := ⟨w.heap.size, 1, none⟩) (by exact hl7)).trans hc1.out)
    have hcv2 := ((hSw.cell (p := ⟨w.heap.size, 2, none⟩) (by exact hl7)).trans hc2.out)
    go_simp
    try with_reducible rfl
  try simp only [List.getElem_toArray, List.getElem_cons_zero, List.getElem_cons_succ, Act.put, List.setIfInBounds_toArray, List.set_cons_zero, List.set_cons_succ]
  refine wpAnyH_ready (rs := [10]) (by kernel_rfl) (by simp) ?_
  refine AllReadyH.cons rfl (fun K hK => ?_) AllReadyH.nil
  go_simp
  refine (HRK2.out _ (by first | exact HB12.out | exact HB8.out)).mono ?_
  rintro e w10 ⟨rfl, hb10⟩
  have HB10 : Hid (Below w7.drew.heap.size w7.drew w10) := Lib.hid (by first | exact HB12.out.via hb10 | exact HB8.out.via hb10)
  clear hb10
  refine hK.out _ _ HB10.out (fun _ => ?_)
  clear hK K
  try simp only [List.getElem_toArray, List.getElem_cons_zero, List.getElem_cons_succ, Act.put, List.setIfInBounds_toArray, List.set_cons_zero, List.set_cons_succ]
  refine wpAnyH_ready (rs := [12]) (by kernel_rfl) (by simp) ?_
  refine AllReadyH.cons rfl (fun K hK => ?_) AllReadyH.nil
  go_simp
  refine (HRR.out _ (HCB.out _ (by first | exact HB10.out | exact HB8.out))).mono ?_
  rintro e w12 ⟨rfl, hb12⟩
  have HB12 : Hid (Below w7.drew.heap.size w7.drew w12) := Lib.hid (by first | exact HB10.out.via hb12 | exact HB8.out.via hb12)
  clear hb12
  refine hK.out _ _ HB12.out (fun _ => ?_)
  clear hK K
  try simp only [List.getElem_toArray, List.getElem_cons_zero, List.getElem_cons_succ, Act.put, List.setIfInBounds_toArray, List.set_cons_zero, List.set_cons_succ]
  refine wpAnyH_take (i := 13) (v := ?_) rfl (by kernel_rfl) (by kernel_rfl) (by kernel_rfl) (fun _ _ _ h => h) (Or.inl ⟨by rfl, ?_⟩) HB12.out ?_
  rotate_left
  · intro wS hSw
    go_simp
    try with_reducible rfl
  try simp only [List.getElem_toArray, List.getElem_cons_zero, List.getElem_cons_succ, Act.put, List.setIfInBounds_toArray, List.set_cons_zero, List.set_cons_succ]
  refine wpAnyH_take (i := 14) (v := ?_) rfl (by kernel_rfl) (by kernel_rfl) (by kernel_rfl) (fun _ _ _ h => h) (Or.inl ⟨by rfl, ?_⟩) HB12.out ?_
  rotate_left
  · intro wS hSw
    go_simp
    try with_reducible rfl
  try simp only [List.getElem_toArray, List.getElem_cons_zero, List.getElem_cons_succ, Act.put, List.setIfInBounds_toArray, List.set_cons_zero, List.set_cons_succ]
  refine wpAnyH_take (i := 15) (v := ?_) rfl (by kernel_rfl) (by kernel_rfl) (by kernel_rfl) (fun _ _ _ h => h) (Or.inl ⟨by rfl, ?_⟩) HB12.out ?_
  rotate_left
  · intro wS hSw
    go_simp
    try with_reducible rfl
  try simp only [List.getElem_toArray, List.getElem_cons_zero, List.getElem_cons_succ, Act.put, List.setIfInBounds_toArray, List.set_cons_zero, List.set_cons_succ]
  refine wpAnyH_ready (rs := [16]) (by kernel_rfl) (by simp) ?_
  refine AllReadyH.cons rfl (fun K hK => ?_) AllReadyH.nil
  go_simp
  refine (HS.out _).mono ?_
  rintro e w16 ⟨rfl, hb16⟩
  have HB16 : Hid (Below w7.drew.heap.size w7.drew w16) := Lib.hid (by first | exact HB12.out.via hb16 | exact HB10.out.via hb16)
  clear hb16
  refine hK.out _ _ HB16.out (fun _ => ?_)
  clear hK K
  try simp only [List.getElem_toArray, List.getElem_cons_zero, List.getElem_cons_succ, Act.put, List.setIfInBounds_toArray, List.set_cons_zero, List.set_cons_succ]
  refine wpAnyH_take (i := 17) (v := ?_) rfl (by kernel_rfl) (by kernel_rfl) (by kernel_rfl) (fun _ _ _ h => h) (Or.inl ⟨by rfl, ?_⟩) HB16.out ?_
  rotate_left
  · intro wS hSw
    go_simp
    try with_reducible rfl
  try simp only [List.getElem_toArray, List.getElem_cons_zero, List.getElem_cons_succ, Act.put, List.setIfInBounds_toArray, List.set_cons_zero, List.set_cons_succ]
  refine wpAnyH_take (i := 18) (v := ?_) rfl (by kernel_rfl) (by kernel_rfl) (by kernel_rfl) (fun _ _ _ h => h) (Or.inl ⟨by rfl, ?_⟩) HB16.out ?_
  rotate_left
  · intro wS hSw
    go_simp
    try with_reducible rfl
  try simp only [List.getElem_toArray, List.getElem_cons_zero, List.getElem_cons_succ, Act.put, List.setIfInBounds_toArray, List.set_cons_zero, List.set_cons_succ]
  refine wpAnyH_done (by kernel_rfl) ?_ _
  go_wp2
  go_ret
  exact ⟨rfl, HCB.out _ HB16.out⟩
end Cib
