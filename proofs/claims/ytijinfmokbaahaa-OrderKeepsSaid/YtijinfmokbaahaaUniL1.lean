/- OrderUnions: the walk. -/
import Derived.Test.YtijinfmokbaahaaUniO
import Derived.Deep.RegionHeld
set_option linter.unusedVariables false
set_option linter.unusedSimpArgs false
set_option maxRecDepth 20000
namespace Cib
open Go Go.RowKit Go.Proofs
theorem few_len {l : List Sn} (h : Ord.fewB l = true) : l.length ≤ 40 := by
  unfold Ord.fewB at h
  rw [Bool.and_eq_true, decide_eq_true_eq] at h
  exact h.2
set_option maxHeartbeats 8000000 in
theorem lawUnions (A : Option Addr) (n c : Nat) (L : List Sn) (f t key : ByteArray) (W : World) (hL : L.length = n) (hnc : n ≤ c) (hcm : c ≤ maxLen) (h : Rd W W.heap.size A (cellsL L)) :
    Calls Try.prog 6 #[.slice A n c, .agg #[.string f, .string t], .string key] W fun e w' => e = .returned (.bool true) ∧ Below W.heap.size W w' := by
  have HO := Lib.hid lawOrders
  have HW : Hid (SS W f t (W.alloc (.cells #[.string f, .string t] 26))) := Lib.hid ⟨⟨#[.string f, .string t], Blk.new _ _ _, rfl, rfl⟩, (Below.refl _ _).alloc (Nat.le_refl _) _⟩
  obtain ⟨r1, hr1⟩ : ∃ r, Ord.shortB [key] = r := ⟨_, rfl⟩
  obtain ⟨r2, hr2⟩ : ∃ r, Ord.fewB L = r := ⟨_, rfl⟩
  obtain ⟨r3, hr3⟩ : ∃ r, Ord.fewB [(f, t)] = r := ⟨_, rfl⟩
  have HSH : Hid (∀ w : World, Calls Try.prog 8 #[.slice (some ⟨w.heap.size, 0, none⟩) 1 1] (w.alloc (.cells #[.string key] 9)) fun e w' => e = .returned (.bool r1) ∧ Below w.heap.size w w') := fun w => by
    have := lawShort (w := w.alloc (.cells #[.string key] 9)) (l := [key]) (Rd.new w #[.string key] 9 (0, 0) rfl) rfl (by unfold maxLen; simp) 1
    rw [hr1] at this
    exact this.mono fun e w' ⟨he, hw⟩ => ⟨he, by rw [hw]; exact (Below.refl _ _).alloc (Nat.le_refl _) _⟩
  have HF1 : Hid (∀ w : World, SS W f t w → Calls Try.prog 14 #[.slice A n c] w fun e w' => e = .returned (.bool r2) ∧ Below w.heap.size w w') := fun w hm => by
    have := lawFew (w := w) (l := L) (h.below hm.below) hL (by omega) c
    rw [hr2] at this
    exact this.mono fun e w' ⟨he, hw⟩ => ⟨he, by rw [hw]; exact Below.refl _ _⟩
  have HF2 : Hid (∀ w : World, Calls Try.prog 14 #[.slice (some ⟨w.heap.size, 0, none⟩) 1 1] (w.alloc (.cells #[.string f, .string t] 26)) fun e w' => e = .returned (.bool r3) ∧ Below w.heap.size w w') := fun w => by
    have := lawFew (w := w.alloc (.cells #[.string f, .string t] 26)) (l := [(f, t)]) (Rd.new w #[.string f, .string t] 26 (0, 0) rfl) rfl (by unfold maxLen; simp) 1
    rw [hr3] at this
    exact this.mono fun e w' ⟨he, hw⟩ => ⟨he, by rw [hw]; exact (Below.refl _ _).alloc (Nat.le_refl _) _⟩
  have HN40 : Hid (r2 = true → n ≤ 40) := Lib.hid (fun e => by rw [← hL]; exact few_len (hr2.trans e))
  have HRD := Lib.hid (And.intro h (And.intro hL (rd_none h hL)))
  clear hr1 hr2 hr3 h hL hnc hcm
  go_enter Try.func6, Try.ntmps6
  go_upto_region 0 with fail
  go_cut [4, 6] (fun x4 x6 wx => x4 = .pointer (some ⟨W.heap.size, 0, none⟩) ∧ x6 = .bool false ∧ Hid (SS W f t wx))
  case first =>
    go_wp2
    go_meet; exact ⟨rfl, rfl, HW⟩
  case rest =>
  obtain ⟨rfl, rfl, HMS⟩ := hcut
  clear HW
  go_wp2_with fail
  refine (HSH.out _).mono ?_
  rintro e w1 ⟨rfl, hb1⟩
  have M1 := Lib.hid (HMS.out.via hb1)
  have d0 := M1.out.c0
  have d1 := M1.out.c1
  cases r1
  · go_wp2_with (go_at_call 9; refine (HO.out _).mono ?_; rintro e w2 ⟨rfl, hb2⟩)
    go_ret
    exact ⟨rfl, (M1.out.via hb2).below⟩
  go_wp2_with fail
  refine (HF1.out _ M1.out).mono ?_
  rintro e w2 ⟨rfl, hb2⟩
  have M2 := Lib.hid (M1.out.via hb2)
  clear d0 d1
  have d0 := M2.out.c0
  have d1 := M2.out.c1
  cases r2
  · go_wp2_with (go_at_call 9; refine (HO.out _).mono ?_; rintro e w3 ⟨rfl, hb3⟩)
    go_ret
    exact ⟨rfl, (M2.out.via hb3).below⟩
  go_wp2_with fail
  refine (HF2.out _).mono ?_
  rintro e w3 ⟨rfl, hb3⟩
  have M3 := Lib.hid (M2.out.via hb3)
  clear d0 d1
  cases r3
  · go_wp2_with (go_at_call 9; refine (HO.out _).mono ?_; rintro e w4 ⟨rfl, hb4⟩)
    go_ret
    exact ⟨rfl, (M3.out.via hb4).below⟩
  have hn40 : n ≤ 40 := HN40.out (by trivial)
  have HU : Hid (∀ w, SS W f t w → _) := Lib.hid (fun w (hm : SS W f t w) => unionAl w W.heap.size n c A L HRD.out.2.1 (HRD.out.1.below hm.below) hm.below.size (by omega) HRD.out.2.2)
  have HRU : Hid (∀ w, SS W f t w → _) := Lib.hid (fun w (hm : SS W f t w) => refUnionAl w W.heap.size n c A L HRD.out.2.1 (HRD.out.1.below hm.below) hm.below.size (by omega))
  have HM : Hid (∀ w, SS W f t w → _) := Lib.hid (fun w (hm : SS W f t w) => minusAl w W.heap.size n c A L f t HRD.out.2.1 (HRD.out.1.below hm.below) hm.below.size (by omega) HRD.out.2.2)
  have HRM : Hid (∀ w, SS W f t w → _) := Lib.hid (fun w (hm : SS W f t w) => refMinusAl w W.heap.size n c A L f t HRD.out.2.1 (HRD.out.1.below hm.below) hm.below.size (by omega))
  have HC : Hid (∀ w, SS W f t w → _) := Lib.hid (fun w (hm : SS W f t w) => coversAl w W.heap.size n c A L key HRD.out.2.1 (HRD.out.1.below hm.below) hm.below.size (by omega))
  have HRC : Hid (∀ w, SS W f t w → _) := Lib.hid (fun w (hm : SS W f t w) => refCoversAl w W.heap.size n c A L key HRD.out.2.1 (HRD.out.1.below hm.below) hm.below.size (by omega))
  have HSAME := Lib.hid (fun (w : World) (n c c' : Nat) (A A' : Option Addr) (O : List Sn) hl h1 h2 hn => refSameAl w w.heap.size n c c' A A' O hl h1 h2 (Nat.le_refl _) hn)
  generalize Ord.cov L key = rc at HC HRC
  clear HSH HF1 HF2 HN40 HRD M1 M2 HMS hb1 hb2 hb3
  go_wp2_with fail
  refine wp_region_held_drew (S := (SS W f t)) (by kernel_rfl) (M3.out.drew) (fun _ => ?_)
  refine wpAnyH_take (i := 0) (v := ?_) rfl (by kernel_rfl) (by kernel_rfl) (by kernel_rfl) (fun _ _ _ h => h) (Or.inl ⟨by rfl, ?_⟩) (M3.out.drew) ?_
  rotate_left
  · intro wS hSw
    go_simp
    try with_reducible rfl
  try simp only [List.getElem_toArray, List.getElem_cons_zero, List.getElem_cons_succ, Act.put, List.setIfInBounds_toArray, List.set_cons_zero, List.set_cons_succ]
  refine wpAnyH_take (i := 2) (v := ?_) rfl (by kernel_rfl) (by kernel_rfl) (by kernel_rfl) (fun _ _ _ h => h) (Or.inl ⟨by rfl, ?_⟩) (M3.out.drew) ?_
  rotate_left
  · intro wS hSw
    go_simp
    try with_reducible rfl
  try simp only [List.getElem_toArray, List.getElem_cons_zero, List.getElem_cons_succ, Act.put, List.setIfInBounds_toArray, List.set_cons_zero, List.set_cons_succ]
  refine wpAnyH_ready (rs := [1]) (by kernel_rfl) (by simp) ?_
  refine AllReadyH.cons rfl (fun K hK => ?_) AllReadyH.nil
  go_simp
  refine (HU.out _ M3.out.drew).mono ?_
  rintro e w4 ⟨A4, n4, c4, rfl, O4, ho4, hcan4, hcov4, hn4, hb4⟩
  have M4 := Lib.hid (M3.out.drew.via hb4)
  have HO4 := Lib.hid ho4
  have HK4 := Lib.hid (And.intro hcan4 hcov4)
  clear ho4 hcan4 hcov4 hb4
  refine hK.out _ _ M4.out (fun _ => ?_)
  clear hK K
  try simp only [List.getElem_toArray, List.getElem_cons_zero, List.getElem_cons_succ, Act.put, List.setIfInBounds_toArray, List.set_cons_zero, List.set_cons_succ]
  refine wpAnyH_ready (rs := [3]) (by kernel_rfl) (by simp) ?_
  refine AllReadyH.cons rfl (fun K hK => ?_) AllReadyH.nil
  go_simp
  refine (HRU.out _ M4.out).mono ?_
  rintro e w5 ⟨A5, n5, c5, rfl, O5, ho5, hcan5, hcov5, hn5, hb5⟩
  obtain rfl : O5 = O4 := Ord.canon_eq hcan5 HK4.out.1 (fun k => (hcov5 k).trans (HK4.out.2 k).symm)
  obtain rfl : n5 = n4 := ho5.len.symm.trans HO4.out.len
  have M5 := Lib.hid (M4.out.via hb5)
  have HS5 := Lib.hid (HSAME.out w5 _ c4 c5 A4 A5 _ ho5.len (HO4.out.via hb5).rd ho5.rd (by omega))
  clear HO4 HK4 ho5 hcan5 hcov5 hb5
  refine hK.out _ _ M5.out (fun _ => ?_)
  clear hK K
  try simp only [List.getElem_toArray, List.getElem_cons_zero, List.getElem_cons_succ, Act.put, List.setIfInBounds_toArray, List.set_cons_zero, List.set_cons_succ]
  refine wpAnyH_ready (rs := [4]) (by kernel_rfl) (by simp) ?_
  refine AllReadyH.cons rfl (fun K hK => ?_) AllReadyH.nil
  go_simp
  refine HS5.out.mono ?_
  rintro e w6 ⟨rfl, hb6⟩
  have M6 := Lib.hid (M5.out.via hb6)
  clear hb6
  refine hK.out _ _ M6.out (fun _ => ?_)
  clear hK K
  try simp only [List.getElem_toArray, List.getElem_cons_zero, List.getElem_cons_succ, Act.put, List.setIfInBounds_toArray, List.set_cons_zero, List.set_cons_succ]
  refine wpAnyH_take (i := 5) (v := ?_) rfl (by kernel_rfl) (by kernel_rfl) (by kernel_rfl) (fun _ _ _ h => h) (Or.inl ⟨by rfl, ?_⟩) M6.out ?_
  rotate_left
  · intro wS hSw
    go_simp
    try with_reducible rfl
  try simp only [List.getElem_toArray, List.getElem_cons_zero, List.getElem_cons_succ, Act.put, List.setIfInBounds_toArray, List.set_cons_zero, List.set_cons_succ]
  refine wpAnyH_take (i := 6) (v := ?_) rfl (by kernel_rfl) (by kernel_rfl) (by kernel_rfl) (fun _ _ _ h => h) (Or.inl ⟨by rfl, ?_⟩) M6.out ?_
  rotate_left
  · intro wS hSw
    go_simp
    try with_reducible rfl
  try simp only [List.getElem_toArray, List.getElem_cons_zero, List.getElem_cons_succ, Act.put, List.setIfInBounds_toArray, List.set_cons_zero, List.set_cons_succ]
  refine wpAnyH_take (i := 9) (v := ?_) rfl (by kernel_rfl) (by kernel_rfl) (by kernel_rfl) (fun _ _ _ h => h) (Or.inl ⟨by rfl, ?_⟩) M6.out ?_
  rotate_left
  · intro wS hSw
    go_simp
    try with_reducible rfl
  try simp only [List.getElem_toArray, List.getElem_cons_zero, List.getElem_cons_succ, Act.put, List.setIfInBounds_toArray, List.set_cons_zero, List.set_cons_succ]
  refine wpAnyH_take (i := 7) (v := ?_) rfl (by kernel_rfl) (by kernel_rfl) (by kernel_rfl) (fun _ _ _ h => h) (Or.inl ⟨by rfl, ?_⟩) M6.out ?_
  rotate_left
  · intro wS hSw
    have hcv := hSw.c0
    have hcv2 := hSw.c1
    go_simp
    try with_reducible rfl
  try simp only [List.getElem_toArray, List.getElem_cons_zero, List.getElem_cons_succ, Act.put, List.setIfInBounds_toArray, List.set_cons_zero, List.set_cons_succ]
  refine wpAnyH_take (i := 10) (v := ?_) rfl (by kernel_rfl) (by kernel_rfl) (by kernel_rfl) (fun _ _ _ h => h) (Or.inl ⟨by rfl, ?_⟩) M6.out ?_
  rotate_left
  · intro wS hSw
    have hcv := hSw.c0
    have hcv2 := hSw.c1
    go_simp
    try with_reducible rfl
  try simp only [List.getElem_toArray, List.getElem_cons_zero, List.getElem_cons_succ, Act.put, List.setIfInBounds_toArray, List.set_cons_zero, List.set_cons_succ]
  refine wpAnyH_ready (rs := [8]) (by kernel_rfl) (by simp) ?_
  refine AllReadyH.cons rfl (fun K hK => ?_) AllReadyH.nil
  go_simp
  refine (HM.out _ M6.out).mono ?_
  rintro e w7 ⟨A7, n7, c7, rfl, O7, ho7, hcan7, hcov7, hn7, hb7⟩
  have M7 := Lib.hid (M6.out.via hb7)
  have HO7 := Lib.hid ho7
  have HK7 := Lib.hid (And.intro hcan7 hcov7)
  clear ho7 hcan7 hcov7 hb7
  refine hK.out _ _ M7.out (fun _ => ?_)
  clear hK K
  try simp only [List.getElem_toArray, List.getElem_cons_zero, List.getElem_cons_succ, Act.put, List.setIfInBounds_toArray, List.set_cons_zero, List.set_cons_succ]
  refine wpAnyH_ready (rs := [11]) (by kernel_rfl) (by simp) ?_
  refine AllReadyH.cons rfl (fun K hK => ?_) AllReadyH.nil
  go_simp
  refine (HRM.out _ M7.out).mono ?_
  rintro e w8 ⟨A8, n8, c8, rfl, O8, ho8, hcan8, hcov8, hn8, hb8⟩
  obtain rfl : O8 = O7 := Ord.canon_eq hcan8 HK7.out.1 (fun k => (hcov8 k).trans (HK7.out.2 k).symm)
  obtain rfl : n8 = n7 := ho8.len.symm.trans HO7.out.len
  have M8 := Lib.hid (M7.out.via hb8)
  have HS8 := Lib.hid (HSAME.out w8 _ c7 c8 A7 A8 _ ho8.len (HO7.out.via hb8).rd ho8.rd (by omega))
  clear HO7 HK7 ho8 hcan8 hcov8 hb8
  refine hK.out _ _ M8.out (fun _ => ?_)
  clear hK K
  try simp only [List.getElem_toArray, List.getElem_cons_zero, List.getElem_cons_succ, Act.put, List.setIfInBounds_toArray, List.set_cons_zero, List.set_cons_succ]
  refine wpAnyH_ready (rs := [12]) (by kernel_rfl) (by simp) ?_
  refine AllReadyH.cons rfl (fun K hK => ?_) AllReadyH.nil
  go_simp
  refine HS8.out.mono ?_
  rintro e w9 ⟨rfl, hb9⟩
  have M9 := Lib.hid (M8.out.via hb9)
  clear hb9
  refine hK.out _ _ M9.out (fun _ => ?_)
  clear hK K
  try simp only [List.getElem_toArray, List.getElem_cons_zero, List.getElem_cons_succ, Act.put, List.setIfInBounds_toArray, List.set_cons_zero, List.set_cons_succ]
  refine wpAnyH_take (i := 13) (v := ?_) rfl (by kernel_rfl) (by kernel_rfl) (by kernel_rfl) (fun _ _ _ h => h) (Or.inl ⟨by rfl, ?_⟩) M9.out ?_
  rotate_left
  · intro wS hSw
    go_simp
    try with_reducible rfl
  try simp only [List.getElem_toArray, List.getElem_cons_zero, List.getElem_cons_succ, Act.put, List.setIfInBounds_toArray, List.set_cons_zero, List.set_cons_succ]
  refine wpAnyH_take (i := 14) (v := ?_) rfl (by kernel_rfl) (by kernel_rfl) (by kernel_rfl) (fun _ _ _ h => h) (Or.inl ⟨by rfl, ?_⟩) M9.out ?_
  rotate_left
  · intro wS hSw
    go_simp
    try with_reducible rfl
  try simp only [List.getElem_toArray, List.getElem_cons_zero, List.getElem_cons_succ, Act.put, List.setIfInBounds_toArray, List.set_cons_zero, List.set_cons_succ]
  refine wpAnyH_take (i := 15) (v := ?_) rfl (by kernel_rfl) (by kernel_rfl) (by kernel_rfl) (fun _ _ _ h => h) (Or.inl ⟨by rfl, ?_⟩) M9.out ?_
  rotate_left
  · intro wS hSw
    go_simp
    try with_reducible rfl
  try simp only [List.getElem_toArray, List.getElem_cons_zero, List.getElem_cons_succ, Act.put, List.setIfInBounds_toArray, List.set_cons_zero, List.set_cons_succ]
  refine wpAnyH_take (i := 16) (v := ?_) rfl (by kernel_rfl) (by kernel_rfl) (by kernel_rfl) (fun _ _ _ h => h) (Or.inl ⟨by rfl, ?_⟩) M9.out ?_
  rotate_left
  · intro wS hSw
    go_simp
    try with_reducible rfl
  try simp only [List.getElem_toArray, List.getElem_cons_zero, List.getElem_cons_succ, Act.put, List.setIfInBounds_toArray, List.set_cons_zero, List.set_cons_succ]
  refine wpAnyH_take (i := 18) (v := ?_) rfl (by kernel_rfl) (by kernel_rfl) (by kernel_rfl) (fun _ _ _ h => h) (Or.inl ⟨by rfl, ?_⟩) M9.out ?_
  rotate_left
  · intro wS hSw
    go_simp
    try with_reducible rfl
  try simp only [List.getElem_toArray, List.getElem_cons_zero, List.getElem_cons_succ, Act.put, List.setIfInBounds_toArray, List.set_cons_zero, List.set_cons_succ]
  refine wpAnyH_take (i := 19) (v := ?_) rfl (by kernel_rfl) (by kernel_rfl) (by kernel_rfl) (fun _ _ _ h => h) (Or.inl ⟨by rfl, ?_⟩) M9.out ?_
  rotate_left
  · intro wS hSw
    go_simp
    try with_reducible rfl
  try simp only [List.getElem_toArray, List.getElem_cons_zero, List.getElem_cons_succ, Act.put, List.setIfInBounds_toArray, List.set_cons_zero, List.set_cons_succ]
  refine wpAnyH_ready (rs := [17]) (by kernel_rfl) (by simp) ?_
  refine AllReadyH.cons rfl (fun K hK => ?_) AllReadyH.nil
  go_simp
  refine (HC.out _ M9.out).mono ?_
  rintro e w10 ⟨rfl, hb10⟩
  have M10 := Lib.hid (M9.out.via hb10)
  clear hb10
  refine hK.out _ _ M10.out (fun _ => ?_)
  clear hK K
  try simp only [List.getElem_toArray, List.getElem_cons_zero, List.getElem_cons_succ, Act.put, List.setIfInBounds_toArray, List.set_cons_zero, List.set_cons_succ]
  refine wpAnyH_ready (rs := [20]) (by kernel_rfl) (by simp) ?_
  refine AllReadyH.cons rfl (fun K hK => ?_) AllReadyH.nil
  go_simp
  refine (HRC.out _ M10.out).mono ?_
  rintro e w11 ⟨rfl, hb11⟩
  have M11 := Lib.hid (M10.out.via hb11)
  clear hb11
  refine hK.out _ _ M11.out (fun _ => ?_)
  clear hK K
  try simp only [List.getElem_toArray, List.getElem_cons_zero, List.getElem_cons_succ, Act.put, List.setIfInBounds_toArray, List.set_cons_zero, List.set_cons_succ]
  refine wpAnyH_take (i := 21) (v := ?_) rfl (by kernel_rfl) (by kernel_rfl) (by kernel_rfl) (fun _ _ _ h => h) (Or.inl ⟨by rfl, ?_⟩) M11.out ?_
  rotate_left
  · intro wS hSw
    go_simp
    try with_reducible rfl
  try simp only [List.getElem_toArray, List.getElem_cons_zero, List.getElem_cons_succ, Act.put, List.setIfInBounds_toArray, List.set_cons_zero, List.set_cons_succ]
  refine wpAnyH_take (i := 22) (v := ?_) rfl (by kernel_rfl) (by kernel_rfl) (by kernel_rfl) (fun _ _ _ h => h) (Or.inl ⟨by rfl, ?_⟩) M11.out ?_
  rotate_left
  · intro wS hSw
    go_simp
    try with_reducible rfl
  try simp only [List.getElem_toArray, List.getElem_cons_zero, List.getElem_cons_succ, Act.put, List.setIfInBounds_toArray, List.set_cons_zero, List.set_cons_succ]
  refine wpAnyH_take (i := 23) (v := ?_) rfl (by kernel_rfl) (by kernel_rfl) (by kernel_rfl) (fun _ _ _ h => h) (Or.inl ⟨by rfl, ?_⟩) M11.out ?_
  rotate_left
  · intro wS hSw
    go_simp
    try with_reducible rfl
  try simp only [List.getElem_toArray, List.getElem_cons_zero, List.getElem_cons_succ, Act.put, List.setIfInBounds_toArray, List.set_cons_zero, List.set_cons_succ]
  refine wpAnyH_ready (rs := [24]) (by kernel_rfl) (by simp) ?_
  refine AllReadyH.cons rfl (fun K hK => ?_) AllReadyH.nil
  go_simp
  refine (HO.out _).mono ?_
  rintro e w12 ⟨rfl, hb12⟩
  have M12 := Lib.hid (M11.out.via hb12)
  clear hb12
  refine hK.out _ _ M12.out (fun _ => ?_)
  clear hK K
  try simp only [List.getElem_toArray, List.getElem_cons_zero, List.getElem_cons_succ, Act.put, List.setIfInBounds_toArray, List.set_cons_zero, List.set_cons_succ]
  refine wpAnyH_take (i := 25) (v := ?_) rfl (by kernel_rfl) (by kernel_rfl) (by kernel_rfl) (fun _ _ _ h => h) (Or.inl ⟨by rfl, ?_⟩) M12.out ?_
  rotate_left
  · intro wS hSw
    go_simp
    try with_reducible rfl
  try simp only [List.getElem_toArray, List.getElem_cons_zero, List.getElem_cons_succ, Act.put, List.setIfInBounds_toArray, List.set_cons_zero, List.set_cons_succ]
  refine wpAnyH_take (i := 26) (v := ?_) rfl (by kernel_rfl) (by kernel_rfl) (by kernel_rfl) (fun _ _ _ h => h) (Or.inl ⟨by rfl, ?_⟩) M12.out ?_
  rotate_left
  · intro wS hSw
    go_simp
    try with_reducible rfl
  try simp only [List.getElem_toArray, List.getElem_cons_zero, List.getElem_cons_succ, Act.put, List.setIfInBounds_toArray, List.set_cons_zero, List.set_cons_succ]
  refine wpAnyH_done (by kernel_rfl) ?_ _
  go_wp2
  go_ret
  exact ⟨rfl, M12.out.below⟩
end Cib
