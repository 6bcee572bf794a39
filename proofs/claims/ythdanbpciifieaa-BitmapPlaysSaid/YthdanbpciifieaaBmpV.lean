/- The other acts on both maps. -/
import Derived.Test.YthdanbpciifieaaBmpU
import Derived.Test.YthdanbpciifieaaBmpL2
set_option linter.unusedVariables false
set_option linter.unusedSimpArgs false
set_option maxRecDepth 40000
namespace Bmp
theorem leastF_free {bs : List Bool} {many : Int} {k : Nat} (h : k < (leastF bs many).length) :
    (leastF bs many)[k] < bs.length ∧ (setN bs ((leastF bs many).take k)).getD (leastF bs many)[k] false = false := by
  by_cases hc : many < 1 ∨ many > bs.length - bs.count true
  · have e : leastF bs many = [] := if_pos hc
    rw [e] at h
    cases h
  · have e : leastF bs many = (free bs 0).take many.toNat := if_neg hc
    have h' := h
    rw [e] at h'
    have := least_free h'
    simp only [e]
    exact this
theorem leastF_length (bs : List Bool) (many : Int) : (leastF bs many).length ≤ bs.length := by
  have := free_length bs 0
  unfold leastF
  split
  · simp
  · rw [List.length_take]
    omega
end Bmp
namespace Cib
open Go Go.RowKit Go.Proofs
variable {w w' w'' : World} {base B g g2 n c n2 c2 : Nat} {bs : List Bool} {A A2 : Option Addr}
theorem below_of_drewN {B : Nat} {q : Nat} (h : Below B (w.drewN q) w') : Below B w w' := ⟨h.os, h.tape, h.output, h.size, h.block⟩
theorem lawActNone (hm : Mp w B g bs A c) (hx : Rm w B g2 bs A2 n2 c2) (hB : B ≤ w.heap.size) (kind at_ many : Int) (h0 : kind ≠ 0) (h1 : kind ≠ 1) (h2 : kind ≠ 2) (h3 : kind ≠ 3) (h5 : kind ≠ 5) :
    Calls Try.prog 17 #[.pointer (some ⟨g, 0, none⟩), .pointer (some ⟨g2, 0, none⟩), .agg (actC kind at_ many)] w (ActR bs.length B g g2 A c w) := by
  have hal : Below w.heap.size w (w.alloc (.cells (actC kind at_ many) 39)) := (Below.refl _ _).alloc (Nat.le_refl _) _
  have k0 : (kind == 0) = false := by simpa using h0
  have k1 : (kind == 1) = false := by simpa using h1
  have k2 : (kind == 2) = false := by simpa using h2
  have k3 : (kind == 3) = false := by simpa using h3
  have k5 : (kind == 5) = false := by simpa using h5
  have HM := Lib.hid (hm.below hal)
  have HX := Lib.hid (hx.below hal)
  have HAL := Lib.hid hal
  clear hm hx hal
  go_enter Try.func17, Try.ntmps17
  unfold actC at *
  go_wp2
  go_ret
  exact ⟨rfl, bs, A2, n2, c2, rfl, HM.out, HX.out, HAL.out.mono hB, Same.below HAL.out⟩
set_option maxHeartbeats 1000000 in
theorem lawActLeast (hm : Mp w B g bs A c) (hx : Rm w B g2 bs A2 n2 c2) (hB : B ≤ w.heap.size) (at_ many : Int) (hmm : -9223372036854775808 ≤ many ∧ many ≤ 9223372036854775807) :
    Calls Try.prog 17 #[.pointer (some ⟨g, 0, none⟩), .pointer (some ⟨g2, 0, none⟩), .agg (actC 5 at_ many)] w (ActR bs.length B g g2 A c w) := by
  have hal : Below w.heap.size w (w.alloc (.cells (actC 5 at_ many) 39)) := (Below.refl _ _).alloc (Nat.le_refl _) _
  have HM := Lib.hid (hm.below hal)
  have HX := Lib.hid (hx.below hal)
  have HBX := Lib.hid (Blk.new w 39 (actC 5 at_ many))
  have HAL := Lib.hid hal
  have HLN := Lib.hid hm.n
  have HLF := Lib.hid (fun k (h : k < (Bmp.leastF bs many).length) => Bmp.leastF_free h)
  have hLl := Bmp.leastF_length bs many
  have hn := hm.n
  clear hm hx hal
  obtain ⟨L, HL⟩ : ∃ L, Hid (Bmp.leastF bs many = L) := ⟨_, rfl⟩
  rw [HL.out] at HLF hLl
  go_enter Try.func17, Try.ntmps17
  unfold actC at *
  go_upto_region 8 with fail
  obtain ⟨gb, hgb⟩ : ∃ gb, w.heap.size = gb := ⟨_, rfl⟩
  rw [hgb] at HBX
  simp only [hgb]
  generalize hw1 : w.alloc _ = w1 at *
  clear hw1 hgb
  refine wp_region_held_drew (S := (fun wQq => Blk wQq gb 39 _)) (by kernel_rfl) (HBX.out) (fun _ => ?_)
  refine wpAnyH_take (i := 0) (v := ?_) rfl (by kernel_rfl) (by kernel_rfl) (by kernel_rfl) (fun _ _ _ h => h) (Or.inl ⟨by rfl, ?_⟩) (HBX.out) ?_
  rotate_left
  · intro wS hSw
    go_simp
    try with_reducible rfl
  try simp only [List.getElem_toArray, List.getElem_cons_zero, List.getElem_cons_succ, Act.put, List.setIfInBounds_toArray, List.set_cons_zero, List.set_cons_succ]
  refine wpAnyH_take (i := 1) (v := ?_) rfl (by kernel_rfl) (by kernel_rfl) (by kernel_rfl) (fun _ _ _ h => h) (Or.inl ⟨by rfl, ?_⟩) (HBX.out) ?_
  rotate_left
  · intro wS hSw
    go_simp
    try with_reducible rfl
  try simp only [List.getElem_toArray, List.getElem_cons_zero, List.getElem_cons_succ, Act.put, List.setIfInBounds_toArray, List.set_cons_zero, List.set_cons_succ]
  refine wpAnyH_take (i := 4) (v := ?_) rfl (by kernel_rfl) (by kernel_rfl) (by kernel_rfl) (fun _ _ _ h => h) (Or.inl ⟨by rfl, ?_⟩) (HBX.out) ?_
  rotate_left
  · intro wS hSw
    go_simp
    try with_reducible rfl
  try simp only [List.getElem_toArray, List.getElem_cons_zero, List.getElem_cons_succ, Act.put, List.setIfInBounds_toArray, List.set_cons_zero, List.set_cons_succ]
  refine wpAnyH_take (i := 5) (v := ?_) rfl (by kernel_rfl) (by kernel_rfl) (by kernel_rfl) (fun _ _ _ h => h) (Or.inl ⟨by rfl, ?_⟩) (HBX.out) ?_
  rotate_left
  · intro wS hSw
    go_simp
    try with_reducible rfl
  try simp only [List.getElem_toArray, List.getElem_cons_zero, List.getElem_cons_succ, Act.put, List.setIfInBounds_toArray, List.set_cons_zero, List.set_cons_succ]
  refine wpAnyH_take (i := 2) (v := ?_) rfl (by kernel_rfl) (by kernel_rfl) (by kernel_rfl) (fun _ _ _ h => h) (Or.inl ⟨by rfl, ?_⟩) (HBX.out) ?_
  rotate_left
  · intro wS hSw
    have hcv := hSw.cell 2
    go_simp
    try with_reducible rfl
  try simp only [List.getElem_toArray, List.getElem_cons_zero, List.getElem_cons_succ, Act.put, List.setIfInBounds_toArray, List.set_cons_zero, List.set_cons_succ]
  refine wpAnyH_take (i := 6) (v := ?_) rfl (by kernel_rfl) (by kernel_rfl) (by kernel_rfl) (fun _ _ _ h => h) (Or.inl ⟨by rfl, ?_⟩) (HBX.out) ?_
  rotate_left
  · intro wS hSw
    have hcv := hSw.cell 2
    go_simp
    try with_reducible rfl
  try simp only [List.getElem_toArray, List.getElem_cons_zero, List.getElem_cons_succ, Act.put, List.setIfInBounds_toArray, List.set_cons_zero, List.set_cons_succ]
  refine wpAnyH_ready (rs := [3]) (by kernel_rfl) (by simp) ?_
  refine AllReadyH.cons rfl (fun K hK => ?_) AllReadyH.nil
  go_simp
  refine (bmLeast (HM.out.drewN 1) many hmm.2).mono ?_
  rintro e w2 ⟨A4, n4, c4, rfl, hn4, ho4, hb2⟩
  rw [HL.out] at hn4 ho4
  have HB2 : Hid (Below w1.heap.size w1 w2) := below_of_drewN hb2
  have HO4 := Lib.hid ho4
  have HN4 := Lib.hid hn4
  clear hb2 ho4 hn4
  refine hK.out _ _ (HBX.out.below HB2.out HBX.out.lt) (fun _ => ?_)
  clear hK K
  try simp only [List.getElem_toArray, List.getElem_cons_zero, List.getElem_cons_succ, Act.put, List.setIfInBounds_toArray, List.set_cons_zero, List.set_cons_succ]
  refine wpAnyH_ready (rs := [7]) (by kernel_rfl) (by simp) ?_
  refine AllReadyH.cons rfl (fun K hK => ?_) AllReadyH.nil
  go_simp
  refine (refLeast (Rm.below (w := w1) HX.out HB2.out) many hmm).mono ?_
  rintro e w3 ⟨A5, n5, c5, rfl, hn5, hr5, hb3⟩
  rw [HL.out] at hn5 hr5
  have HB3 := Lib.hid hb3
  have HR5 := Lib.hid hr5
  have HN5 := Lib.hid hn5
  clear hb3 hr5 hn5
  refine hK.out _ _ (Blk.below (HBX.out.below HB2.out HBX.out.lt) HB3.out (HBX.out.below HB2.out HBX.out.lt).lt) (fun _ => ?_)
  clear hK K
  try simp only [List.getElem_toArray, List.getElem_cons_zero, List.getElem_cons_succ, Act.put, List.setIfInBounds_toArray, List.set_cons_zero, List.set_cons_succ]
  refine wpAnyH_take (i := 8) (v := ?_) rfl (by kernel_rfl) (by kernel_rfl) (by kernel_rfl) (fun _ _ _ h => h) (Or.inl ⟨by rfl, ?_⟩) (Blk.below (HBX.out.below HB2.out HBX.out.lt) HB3.out (HBX.out.below HB2.out HBX.out.lt).lt) ?_
  rotate_left
  · intro wS hSw
    go_simp
    try with_reducible rfl
  try simp only [List.getElem_toArray, List.getElem_cons_zero, List.getElem_cons_succ, Act.put, List.setIfInBounds_toArray, List.set_cons_zero, List.set_cons_succ]
  refine wpAnyH_take (i := 9) (v := ?_) rfl (by kernel_rfl) (by kernel_rfl) (by kernel_rfl) (fun _ _ _ h => h) (Or.inl ⟨by rfl, ?_⟩) (Blk.below (HBX.out.below HB2.out HBX.out.lt) HB3.out (HBX.out.below HB2.out HBX.out.lt).lt) ?_
  rotate_left
  · intro wS hSw
    go_simp
    try with_reducible rfl
  try simp only [List.getElem_toArray, List.getElem_cons_zero, List.getElem_cons_succ, Act.put, List.setIfInBounds_toArray, List.set_cons_zero, List.set_cons_succ]
  refine wpAnyH_done (by kernel_rfl) ?_ _
  have HO4' := Lib.hid (own_below HO4.out HB3.out (Nat.le_refl _))
  have HMx := Lib.hid (Mp.below (HM.out.below HB2.out) HB3.out)
  have HXx := Lib.hid (Rm.below (Rm.below (w := w1) (w' := w2) HX.out HB2.out) HB3.out)
  have HBB := Lib.hid ((HAL.out.via (HB2.out.via HB3.out)).mono hB)
  have HSS := Lib.hid (Same.trans (Same.below (ts := [42, 50]) HAL.out) (Same.below (HB2.out.via HB3.out)))
  have HR4 := Lib.hid (Rd.of_own HO4'.out)
  have hnn : n4 ≤ 65536 := by rw [← HN4.out]; omega
  clear HM HX HO4 HAL HBX HB2 HB3
  obtain ⟨W4, hW4⟩ : ∃ W4, W4 = w2.heap.size := ⟨_, rfl⟩
  go_upto_region 9 with fail
  go_wp2_with fail
  refine (refInts A4 A5 n4 n5 c4 c5 w3.heap.size L L w3 HR4.out HR5.out HN4.out HN5.out (by omega) (Nat.le_refl _)).mono ?_
  rintro e w4 ⟨rfl, hb4⟩
  have HMy := Lib.hid (HMx.out.below hb4)
  have HXy := Lib.hid (HXx.out.below hb4)
  have HO5 := Lib.hid (own_below HO4'.out hb4 (Nat.le_refl _))
  have HBB2 := Lib.hid (HBB.out.trans (hb4.mono (Nat.le_trans hB HBB.out.size)))
  have HSS2 := Lib.hid (HSS.out.trans (Same.below hb4))
  clear HMx HXx HO4' HBB HSS HR4 HR5 hb4
  simp only [decide_true]
  go_wp2
  go_loopw [9] (fun x wq => ∃ (k : Nat) (A3 : Option Addr) (n3 c3 : Nat), k ≤ n4 ∧ x = .int .i64 k ∧ Hid (Mp wq B g (Bmp.setN bs (L.take k)) A c) ∧ Hid (Rm wq B g2 (Bmp.setN bs (L.take k)) A3 n3 c3) ∧ Hid (Below B w wq) ∧ Hid (Same [42, 50] w4 wq)) (fun x _ => n4 - (intOf x).toNat)
  case atStart => exact ⟨0, A2, n2, c2, Nat.zero_le _, rfl, HMy, HXy, HBB2, Same.refl _ _⟩
  case round =>
    clear HMy HXy HBB2
    obtain ⟨k, A3, n3, c3, hk, rfl, hM, hX, hb, hS⟩ := hrel
    by_cases hlt : k < n4
    · have hkL : k < L.length := by rw [HN4.out]; exact hlt
      obtain ⟨hx1, hx2⟩ := HLF.out k hkL
      have hxl : L[k] < (Bmp.setN bs (L.take k)).length := by rw [Bmp.setN_length]; exact hx1
      have hod := own_same HO5.out hS.out (by decide)
      obtain ⟨ad, rfl, hcx⟩ := rd_int (Rd.of_own hod) hkL
      have HS := Lib.hid (bmSet hM.out (L[k] : Int) true)
      have HX := Lib.hid (fun (W : World) (A3 : Option Addr) (n3 c3 : Nat) (h : Rm W B g2 (Bmp.setN bs (L.take k)) A3 n3 c3) => refSet h (L[k] : Int) true)
      unfold SetR at HX
      rw [Bmp.set_get hx2 hxl, ← Bmp.setN_take bs L k hkL] at HS HX
      have hxn : L[k] ≤ 65536 := by omega
      have HRx := Lib.hid (fun (W : World) (h : Same [42, 50] w4 W) => rd_int (Rd.of_own (own_same HO5.out h (by decide))) hkL)
      generalize L[k] = x at *
      clear hx1 hx2 hxl hod
      go_wp2_with fail
      refine HS.out.mono ?_
      rintro e w5 ⟨rfl, hM5, hb5, hk5⟩
      have hs5 := Mp.onlyWords hM.out hk5
      have hX5 := Rm.same hX.out hs5 (by decide) (by decide)
      have hS5 := hS.out.trans (hs5.more (by decide))
      obtain ⟨ad2, e2, hc5⟩ := HRx.out w5 hS5
      injection e2 with e2
      subst e2
      have HXS := Lib.hid (HX.out w5 A3 n3 c3 hX5)
      have HX5 := Lib.hid hX5
      have HM5 := Lib.hid hM5
      have HS5 := Lib.hid hS5
      have HB5 := Lib.hid (hb.out.trans hb5)
      clear hM hX hb hS hs5 hM5 hS5 hb5 hk5 hX5 HS HX hcx
      go_wp2_with (go_at_call 31; refine HXS.out.mono ?_; rintro e w6 ⟨rfl, ⟨A6, n6, c6, hX6⟩, hb6, hk6⟩; have HK6 := Lib.hid (Rm.onlyMap HX5.out hk6); have HX6 := Lib.hid hX6; have HB6 := Lib.hid hb6; clear hX6 hb6 hk6)
      exact ⟨⟨k + 1, A6, n6, c6, hlt, by go_num, HM5.out.same HK6.out (by decide) (by decide), HX6, HB5.out.trans HB6.out, HS5.out.trans (HK6.out.more (by decide))⟩, by simp [intOf]; omega⟩
    · obtain rfl : k = n4 := by omega
      go_wp2
      go_ret
      exact ⟨rfl, _, A3, n3, c3, Bmp.setN_length _ _, hM.out, hX.out, hb.out, HSS2.out.trans hS.out⟩
end Cib
