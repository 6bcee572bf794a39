/- Rank. -/
import Derived.Test.YtnicfpkadiamaaaMatJ
set_option linter.unusedVariables false
set_option linter.unusedSimpArgs false
set_option maxRecDepth 40000
namespace Cib
open Go Go.RowKit Go.Proofs
theorem nilRank (m : Array Value) (w : World) : Calls Try.prog 16 #[.pointer none, .agg m] w fun e w' => e = .returned (.int .i64 0) ∧ Below w.heap.size w w' := by
  go_enter Try.func16, Try.ntmps16
  go_wp2_with fail
  refine (nilNobody _).mono ?_
  rintro e w1 ⟨rfl, rfl⟩
  go_wp2
  go_ret
  exact ⟨rfl, (Below.refl _ _).alloc (Nat.le_refl _) _⟩
set_option maxHeartbeats 2000000 in
theorem matRankNo (g : Nat) (r c : Int) (A : Option Addr) (n k : Nat) (w : World) (h : Fld w g) (hn : n ≤ 140737488355328) (hno : mr r c n = false) :
    Calls Try.prog 16 #[.pointer (some ⟨g, 0, none⟩), .agg (mv r c A n k)] w fun e w' => e = .returned (.int .i64 0) ∧ Stp g w w' := by
  have hz : Below w.heap.size w (w.alloc (.cells (mv r c A n k) 24)) := (Below.refl _ _).alloc (Nat.le_refl _) _
  have HIW := Lib.hid (Blk.new w 24 (mv r c A n k))
  have HFA := Lib.hid (h.on hz)
  have HGL := Lib.hid h.lt
  have HZ := Lib.hid hz
  have HRI := Lib.hid fun W => matRight r c A n k hn W
  rw [hno] at HRI
  clear h hz hno
  unfold mv at HRI HFA HZ ⊢
  go_enter Try.func16, Try.ntmps16
  go_wp2_with fail
  refine (matNobody g _ HFA.out).mono ?_
  rintro e w1 ⟨rfl, ha⟩
  have HS1 := Lib.hid (ha.stp2 HZ.out)
  have hm := ha.blk (by have := HGL.out; omega) HIW.out
  have m0 := hm.cell 0
  have m1 := hm.cell 1
  have m2 := hm.cell 2
  unfold mv at m0 m1 m2
  simp only [List.getElem?_toArray, List.getElem?_cons_zero, List.getElem?_cons_succ] at m0 m1 m2
  clear ha HFA HIW HZ hm
  go_wp2_with fail
  refine (HRI.out _).mono ?_
  rintro e w2 ⟨rfl, hb2⟩
  have HS2 := Lib.hid (HS1.out.via hb2)
  clear hb2 m0 m1 m2
  go_wp2
  go_ret
  exact ⟨rfl, HS2.out⟩
set_option maxHeartbeats 4000000 in
theorem matRank (g r c : Nat) (A : Option Addr) (k : Nat) (bs : List UInt8) (w : World) (h : Fld w g) (hr : Rd w w.heap.size A (bs.map bv)) (hg : ∀ ad, A = some ad → ad.block ≠ g) (hbs : bs.length = r * c) (hk : r * c ≤ k) (hr1 : 1 ≤ r) (hr2 : r ≤ 255) (hc1 : 1 ≤ c) (hc2 : c ≤ 255) :
    Calls Try.prog 16 #[.pointer (some ⟨g, 0, none⟩), .agg (mv r c A (r * c) k)] w fun e w' => e = .returned (.int .i64 (Lin.rankF r c bs : Int)) ∧ Stp g w w' := by
  have hz : Below w.heap.size w (w.alloc (.cells (mv r c A (r * c) k) 24)) := (Below.refl _ _).alloc (Nat.le_refl _) _
  have hnn : r * c ≤ 65025 := Nat.mul_le_mul hr2 hc2
  have hmr : mr (r : Int) (c : Int) (r * c) = true := mr_true.2 ⟨by omega, by omega, by simp⟩
  have HIW := Lib.hid (Blk.new w 24 (mv r c A (r * c) k))
  have HFA := Lib.hid (h.on hz)
  have HGL := Lib.hid h.lt
  have HZ := Lib.hid hz
  have HRI := Lib.hid fun W => matRight r c A (r * c) k (by omega) W
  rw [hmr] at HRI
  have HRD := Lib.hid hr
  have HHG := Lib.hid hg
  have HBS := Lib.hid hbs
  have HRF := Lib.hid (Lin.rankF_rk hbs)
  obtain ⟨T, hT⟩ : ∃ T, r * c = T := ⟨_, rfl⟩
  have HT := Lib.hid hT
  rw [hT] at HRI HFA HZ HIW hk hnn ⊢
  clear h hz hr hg hbs hmr hT
  unfold mv at HRI HFA HZ ⊢
  go_enter Try.func16, Try.ntmps16
  go_wp2_with fail
  refine (matNobody g _ HFA.out).mono ?_
  rintro e w1 ⟨rfl, ha⟩
  have HS1 := Lib.hid (ha.stp2 HZ.out)
  have HM1 := Lib.hid (ha.blk (by have := HGL.out; omega) HIW.out)
  have m0 := HM1.out.cell 0
  have m1 := HM1.out.cell 1
  have m2 := HM1.out.cell 2
  unfold mv at m0 m1 m2
  simp only [List.getElem?_toArray, List.getElem?_cons_zero, List.getElem?_cons_succ] at m0 m1 m2
  clear ha HFA HIW HZ
  go_wp2_with fail
  refine (HRI.out _).mono ?_
  rintro e w2 ⟨rfl, hb2⟩
  have HM2 := Lib.hid (HM1.out.below hb2 HM1.out.lt)
  have HS2 := Lib.hid (HS1.out.via hb2)
  clear hb2 m0 m1 m2 HM1 HS1 HRI
  have HBG := Lib.hid fun (W : World) (hW : Below w2.heap.size w2 W) => matBegunF g r c A T k bs W (HS2.out.full.on hW) ((((HS2.out.rd HRD.out (Nat.le_refl _) HHG.out).more HS2.out.size).below hW).more hW.size) HBS.out HT.out.symm hk hr1 hr2 hc2
  unfold BegR mv at HBG
  have hlm := HM2.out.lt
  have HC0 : Hid (w2.cell? ⟨w.heap.size, 0, none⟩ = some (.int .i64 (r : Int))) := Lib.hid (HM2.out.cell 0)
  have HC1 : Hid (w2.cell? ⟨w.heap.size, 1, none⟩ = some (.int .i64 (c : Int))) := Lib.hid (HM2.out.cell 1)
  have HC2 : Hid (w2.cell? ⟨w.heap.size, 2, none⟩ = some (.slice A T k)) := Lib.hid (HM2.out.cell 2)
  go_wp2
  refine wp_region_held_drew (S := (fun wQq => Below (World.heap (w2.drew)).size (w2.drew) wQq)) (by kernel_rfl) (by exact Below.refl _ _) (fun _ => ?_)
  refine wpAnyH_take (i := 0) (v := ?_) rfl (by kernel_rfl) (by kernel_rfl) (by kernel_rfl) (fun _ _ _ h => h) (Or.inl ⟨by rfl, ?_⟩) (Below.refl _ _) ?_
  rotate_left
  · intro wS hSw
    go_simp
    try with_reducible rfl
  try simp only [List.getElem_toArray, List.getElem_cons_zero, List.getElem_cons_succ, Act.put, List.setIfInBounds_toArray, List.set_cons_zero, List.set_cons_succ]
  refine wpAnyH_take (i := 3) (v := ?_) rfl (by kernel_rfl) (by kernel_rfl) (by kernel_rfl) (fun _ _ _ h => h) (Or.inl ⟨by rfl, ?_⟩) (Below.refl _ _) ?_
  rotate_left
  · intro wS hSw
    go_simp
    try with_reducible rfl
  try simp only [List.getElem_toArray, List.getElem_cons_zero, List.getElem_cons_succ, Act.put, List.setIfInBounds_toArray, List.set_cons_zero, List.set_cons_succ]
  refine wpAnyH_take (i := 1) (v := ?_) rfl (by kernel_rfl) (by kernel_rfl) (by kernel_rfl) (fun _ _ _ h => h) (Or.inl ⟨by rfl, ?_⟩) (Below.refl _ _) ?_
  rotate_left
  · intro wS hSw
    have hcv := ((hSw.cell (p := ⟨w.heap.size, 0, none⟩) (by exact hlm)).trans HC0.out)
    have hcv1 := ((hSw.cell (p := ⟨w.heap.size, 1, none⟩) (by exact hlm)).trans HC1.out)
    have hcv2 := ((hSw.cell (p := ⟨w.heap.size, 2, none⟩) (by exact hlm)).trans HC2.out)
    go_simp
    try with_reducible rfl
  try simp only [List.getElem_toArray, List.getElem_cons_zero, List.getElem_cons_succ, Act.put, List.setIfInBounds_toArray, List.set_cons_zero, List.set_cons_succ]
  refine wpAnyH_take (i := 4) (v := ?_) rfl (by kernel_rfl) (by kernel_rfl) (by kernel_rfl) (fun _ _ _ h => h) (Or.inl ⟨by rfl, ?_⟩) (Below.refl _ _) ?_
  rotate_left
  · intro wS hSw
    have hcv := ((hSw.cell (p := ⟨w.heap.size, 1, none⟩) (by exact hlm)).trans HC1.out)
    go_simp
    try with_reducible rfl
  try simp only [List.getElem_toArray, List.getElem_cons_zero, List.getElem_cons_succ, Act.put, List.setIfInBounds_toArray, List.set_cons_zero, List.set_cons_succ]
  refine wpAnyH_ready (rs := [2]) (by kernel_rfl) (by simp) ?_
  refine AllReadyH.cons rfl (fun K hK => ?_) AllReadyH.nil
  go_simp
  refine (HBG.out (w2.drewN 1) (below_drewN (Below.refl _ _) 1)).mono ?_
  rintro e w3 ⟨gw, gr, cc, L, rfl, hK3, hL3, hb3⟩
  simp only [Bool.false_eq_true, if_false, Nat.add_zero] at hK3
  have HK3 := Lib.hid hK3
  have HL3 := Lib.hid hL3
  have HB3 : Hid (Below w2.drew.heap.size w2.drew w3) := Lib.hid hb3
  clear hK3 hL3 hb3
  refine hK.out _ _ HB3.out (fun _ => ?_)
  clear hK K
  try simp only [List.getElem_toArray, List.getElem_cons_zero, List.getElem_cons_succ, Act.put, List.setIfInBounds_toArray, List.set_cons_zero, List.set_cons_succ]
  refine wpAnyH_ready (rs := [5]) (by kernel_rfl) (by simp) ?_
  refine AllReadyH.cons rfl (fun K hK => ?_) AllReadyH.nil
  go_simp
  refine (matElim HK3.out c (Nat.le_refl _) (by omega) (by omega)).mono ?_
  rintro e w5 ⟨q, L5, rfl, hK5, hE5, _⟩
  have HB5 : Hid (Below w2.drew.heap.size w2.drew w5) := Lib.hid hK5.dat.below
  have HQ : Hid (q = Lin.rankF r c bs) := Lib.hid (((hE5.rank (Nat.le_refl _)).congr fun i k hi hk => by rw [HL3.out]; exact Lin.begunL_ent HBS.out false hi hk).eq HRF.out)
  clear hK5 hE5
  refine hK.out _ _ HB5.out (fun _ => ?_)
  clear hK K
  try simp only [List.getElem_toArray, List.getElem_cons_zero, List.getElem_cons_succ, Act.put, List.setIfInBounds_toArray, List.set_cons_zero, List.set_cons_succ]
  refine wpAnyH_take (i := 6) (v := ?_) rfl (by kernel_rfl) (by kernel_rfl) (by kernel_rfl) (fun _ _ _ h => h) (Or.inl ⟨by rfl, ?_⟩) HB5.out ?_
  rotate_left
  · intro wS hSw
    go_simp
    try with_reducible rfl
  try simp only [List.getElem_toArray, List.getElem_cons_zero, List.getElem_cons_succ, Act.put, List.setIfInBounds_toArray, List.set_cons_zero, List.set_cons_succ]
  refine wpAnyH_done (by kernel_rfl) ?_ _
  go_wp2
  go_ret
  exact ⟨ret_eq (nat_eq HQ.out), HS2.out.via ((below_drewN (Below.refl _ _) 1).trans HB5.out)⟩
end Cib
