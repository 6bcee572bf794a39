/- What the document gets of a sector: contract. -/
import Derived.Test.YtpkpdamdclafjaaShdY
set_option linter.unusedVariables false
set_option linter.unusedSimpArgs false
set_option maxRecDepth 40000
namespace Cib
open Go Go.RowKit Go.Proofs

theorem refGet2 (A : Option Addr) (cap : Nat) (b : List UInt8) (w : World) {len : Nat} (hn : b.length = len) (hl : len ≠ 64) :
    Calls Try.prog 17 #[.slice A len cap] w (GetOut b w) := by
  have HV : Hid (Shd.getS b = (Shd.nul, 2)) := if_pos (by omega)
  have hne : ((len : Int) != 64) = true := by rw [bne_iff_ne]; omega
  have HO := Lib.hid (shC_one Shd.nul)
  have HS := Lib.hid (shCsize Shd.nul Shd.nul_ok)
  have HZ := Lib.hid shdZero
  have HB := Lib.hid shdBuilt
  unfold GetOut
  rw [HV.out]
  simp only
  clear hn hl HV
  generalize shC Shd.nul = Z at *
  go_enter Try.func17, Try.ntmps17
  go_wp2_with (first | (refine wpList_allocAs rfl 26 rfl Z HZ.out ?_) | (refine wpList_buildAs rfl 26 _ rfl Z HB.out (by simp) ?_) | (refine wpList_store_row rfl 26 _ _ rfl w.heap.size Z rfl rfl 26 Z (Blk.new _ _ _) (by rw [HS.out]; exact shdInfo) rfl HO.out ?_))
  refine bodyPost_ret (results_cell_row2 (g := w.heap.size) (te := 26) (cs := Z) (fr := (0, 0)) rfl _ _ _ rfl ((Blk.new _ _ _).row Z) Try.underlying26 rfl (by rw [HS.out]; exact shdInfo)) rfl ⟨rfl, below_setRow ((Below.refl _ _).alloc (Nat.le_refl _) _) (Nat.le_refl _) Z⟩
set_option maxHeartbeats 1000000 in
theorem refGetSum (A : Option Addr) (cap : Nat) (b : List UInt8) (w : World) (B : Nat) (h : Rd w B A (b.map bv)) (hl : b.length = 64) (hcap : 64 ≤ cap) (hcm : cap ≤ maxLen) (hB : B ≤ w.heap.size) (hs : Shd.at_ b 60 4 ≠ (Crc.more 0#32 (b.take 60)).toNat) :
    Calls Try.prog 17 #[.slice A 64 cap] w (GetOut b w) := by
  have HV : Hid (Shd.getS b = (Shd.nul, 4)) := by (show _ = _; unfold Shd.getS; rw [if_neg (by omega), if_pos hs])
  have hne : Shd.closed (b.take 60) ≠ b := fun e => hs ((Shd.closed_iff hl).1 e)
  have hsl := fun W : World => run_cut_to (P := Try.prog) 28 5 Try.underlying28 sizeByte A 64 cap 60 .i64 (by omega) W
  have hci : (60 : Int) ≤ (cap : Int) := by omega
  have ht : Rd w B A ((b.take 60).map bv) := by rw [List.map_take]; exact h.take 60
  have HTL : Hid ((b.take 60).length = 60) := by (show _ = _; rw [List.length_take]; omega)
  have HO := Lib.hid (shC_one Shd.nul)
  have HS := Lib.hid (shCsize Shd.nul Shd.nul_ok)
  have HZ := Lib.hid shdZero
  have HB := Lib.hid shdBuilt
  have HL := Lib.hid hl
  have HR := Lib.hid h
  have HT := Lib.hid ht
  unfold GetOut
  rw [HV.out]
  simp only
  have hq : (Shd.closed (b.take 60) == b) = false := by simpa using hne
  have HCL := Lib.hid (fun W (hW : Below w.heap.size w W) => refClosed A cap (b.take 60) W B (ht.below (hW.mono hB)) HTL.out (Nat.le_trans hB hW.size) (by decide))
  generalize Shd.closed (b.take 60) = q at *
  clear hs HV hl h ht hne
  generalize shC Shd.nul = Z at *
  go_enter Try.func17, Try.ntmps17
  go_wp2_with (refine wpList_allocAs rfl 26 rfl Z HZ.out ?_)
  have hb1 : Below w.heap.size w (w.alloc (.cells Z 26)) := (Below.refl _ _).alloc (Nat.le_refl _) _
  have hv1 := Blk.new w 26 Z
  generalize w.alloc (.cells Z 26) = w1 at *
  refine wp_region_held_drew (S := (fun w' => Below (World.heap (w1.drew)).size (w1.drew) w')) (by kernel_rfl) (by exact Below.refl _ _) (fun _ => ?_)
  refine wpAnyH_take (i := 0) (v := ?_) rfl (by kernel_rfl) (by kernel_rfl) (by kernel_rfl) (fun _ _ _ h => h) (Or.inl ⟨by rfl, ?_⟩) (Below.refl _ _) ?_
  rotate_left
  · intro wS hSw
    go_simp
    try with_reducible rfl
  try simp only [List.getElem_toArray, List.getElem_cons_zero, List.getElem_cons_succ, Act.put, List.setIfInBounds_toArray, List.set_cons_zero, List.set_cons_succ]
  refine wpAnyH_take (i := 1) (v := ?_) rfl (by kernel_rfl) (by kernel_rfl) (by kernel_rfl) (fun _ _ _ h => h) (Or.inl ⟨by rfl, ?_⟩) (Below.refl _ _) ?_
  rotate_left
  · intro wS hSw
    go_simp
    try with_reducible rfl
  try simp only [List.getElem_toArray, List.getElem_cons_zero, List.getElem_cons_succ, Act.put, List.setIfInBounds_toArray, List.set_cons_zero, List.set_cons_succ]
  refine wpAnyH_take (i := 4) (v := ?_) rfl (by kernel_rfl) (by kernel_rfl) (by kernel_rfl) (fun _ _ _ h => h) (Or.inl ⟨by rfl, ?_⟩) (Below.refl _ _) ?_
  rotate_left
  · intro wS hSw
    go_simp
    try with_reducible rfl
  try simp only [List.getElem_toArray, List.getElem_cons_zero, List.getElem_cons_succ, Act.put, List.setIfInBounds_toArray, List.set_cons_zero, List.set_cons_succ]
  refine wpAnyH_take (i := 5) (v := ?_) rfl (by kernel_rfl) (by kernel_rfl) (by kernel_rfl) (fun _ _ _ h => h) (Or.inl ⟨by rfl, ?_⟩) (Below.refl _ _) ?_
  rotate_left
  · intro wS hSw
    have hcv := str_run ((HR.out.below (hb1.mono hB)).drew) hSw (Nat.le_trans hB hb1.size) HL.out cap
    go_simp
    try with_reducible rfl
  try simp only [List.getElem_toArray, List.getElem_cons_zero, List.getElem_cons_succ, Act.put, List.setIfInBounds_toArray, List.set_cons_zero, List.set_cons_succ]
  refine wpAnyH_ready (rs := [2]) (by kernel_rfl) (by simp) ?_
  refine AllReadyH.cons rfl (fun K hK => ?_) AllReadyH.nil
  go_simp
  refine (HCL.out _ (below_drewN hb1 1)).mono ?_
  rintro e w2 ⟨A2, n2, c2, rfl, hn2, ho2, hb2⟩
  have HN2 := Lib.hid hn2
  clear hn2
  have hr2 := Rd.of_own ho2
  have hv2 := (hv1.drewN 1).below hb2 (by exact hv1.lt)
  replace hb1 := (below_drewN hb1 1).via hb2
  refine hK.out _ _ hb2 (fun _ => ?_)
  clear hK K
  try simp only [List.getElem_toArray, List.getElem_cons_zero, List.getElem_cons_succ, Act.put, List.setIfInBounds_toArray, List.set_cons_zero, List.set_cons_succ]
  refine wpAnyH_strong (S2 := fun w' => Below (World.heap w2).size w2 w') (fun _ h => Below.via hb2 h) ?_
  refine wpAnyH_take (i := 3) (v := ?_) rfl (by kernel_rfl) (by kernel_rfl) (by kernel_rfl) (fun _ _ _ h => h) (Or.inl ⟨by rfl, ?_⟩) (Below.refl _ _) ?_
  rotate_left
  · intro wS hSw
    have hcv := str_run hr2 hSw (Nat.le_refl _) HN2.out c2
    go_simp
    try with_reducible rfl
  try simp only [List.getElem_toArray, List.getElem_cons_zero, List.getElem_cons_succ, Act.put, List.setIfInBounds_toArray, List.set_cons_zero, List.set_cons_succ]
  refine wpAnyH_take (i := 6) (v := ?_) rfl (by kernel_rfl) (by kernel_rfl) (by kernel_rfl) (fun _ _ _ h => h) (Or.inl ⟨by rfl, ?_⟩) (Below.refl _ _) ?_
  rotate_left
  · intro wS hSw
    go_simp
    try with_reducible rfl
  try simp only [List.getElem_toArray, List.getElem_cons_zero, List.getElem_cons_succ, Act.put, List.setIfInBounds_toArray, List.set_cons_zero, List.set_cons_succ]
  refine wpAnyH_done (by kernel_rfl) ?_ _
  go_wp2_with (first | (refine wpList_buildAs rfl 26 _ rfl Z HB.out (by simp) ?_) | (refine wpList_store_row rfl 26 _ _ rfl w.heap.size Z rfl rfl 26 Z hv2 (by rw [HS.out]; exact shdInfo) rfl HO.out ?_))
  refine bodyPost_ret (results_cell_row2 (g := w.heap.size) (te := 26) (cs := Z) (fr := (0, 0)) rfl _ _ _ rfl (hv2.row Z) Try.underlying26 rfl (by rw [HS.out]; exact shdInfo)) rfl ⟨rfl, below_setRow hb1 (Nat.le_refl _) Z⟩
end Cib
