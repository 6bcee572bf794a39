/- What must come at any rate: the page's example. -/
import Derived.Test.YthlpcghoijgeiaaLocF
set_option linter.unusedVariables false
set_option linter.unusedSimpArgs false
set_option maxRecDepth 40000
namespace Cib
open Go Go.RowKit Go.Proofs
/-- Rows written out, of which one is new. -/
theorem litN (w : World) (x : UInt8) (L : List RowB) (vx : Value) (hvx : vx = bv x) (cs : Array Value) (hcs : cs.toList = L.map RowB.v) (hL : ∀ r ∈ L, r = ⟨some ⟨w.heap.size, 0, none⟩, 1, 1, [x]⟩ ∨ r.At w w.heap.size) :
    Rd ((w.alloc (.cells #[vx] 5)).alloc (.cells cs 22)) ((w.alloc (.cells #[vx] 5)).alloc (.cells cs 22)).heap.size (some ⟨w.heap.size + 1, 0, none⟩) (L.map RowB.v) ∧ RowsAt ((w.alloc (.cells #[vx] 5)).alloc (.cells cs 22)) ((w.alloc (.cells #[vx] 5)).alloc (.cells cs 22)).heap.size L ∧ Below w.heap.size w ((w.alloc (.cells #[vx] 5)).alloc (.cells cs 22)) := by
  have hb : Below w.heap.size w ((w.alloc (.cells #[vx] 5)).alloc (.cells cs 22)) := ((Below.refl _ _).alloc (Nat.le_refl _) _).alloc (by simp) _
  have e1 : (w.alloc (.cells #[vx] 5)).heap.size = w.heap.size + 1 := by simp
  refine ⟨?_, fun r hr => ?_, hb⟩
  · have h1 := Rd.new (w.alloc (.cells #[vx] 5)) cs 22 (0, 0) hcs
    rw [e1] at h1
    exact h1.more (by simp)
  · rcases hL r hr with rfl | h1
    · have h2 := Rd.new w #[vx] 5 (0, 0) (vs := [x].map bv) (by rw [hvx]; rfl)
      exact ⟨(h2.alloc (by simp) _).more (by simp), rfl, Nat.le_refl _, by show 1 ≤ maxLen; unfold maxLen; omega⟩
    · exact (h1.below hb).more hb.size
theorem three_rows {L : List RowB} {a b c : List UInt8} (h : L.map (·.bs) = [a, b, c]) : ∃ r s t : RowB, L = [r, s, t] ∧ r.bs = a ∧ s.bs = b ∧ t.bs = c := by
  rcases L with _ | ⟨r, _ | ⟨s, _ | ⟨t, _ | ⟨u, l⟩⟩⟩⟩
  · simp at h
  · simp at h
  · simp at h
  · simp only [List.map_cons, List.map_nil, List.cons.injEq, and_true] at h
    exact ⟨r, s, t, rfl, h.1, h.2.1, h.2.2⟩
  · simp at h
theorem exSh : Cod.shards 1 [[5]] 3 = [[5], [5], [140]] := by decide +kernel
theorem exDif : Loc.dif (Cod.shards 1 [[5]] 3) [[5], [7], [140]] 3 = [1] := by rw [exSh]; decide
theorem exDif2 : Loc.dif [[5], [7], [140]] [[5], [5], [140]] 3 = [1] := by decide
/-- Two of the three tell the third one. -/
theorem exOne {D : List (List UInt8)} (hD : D.length = 1) (hw : ∀ r ∈ D, r.length = 1) (h : (Loc.dif (Cod.shards 1 D 3) [[5], [7], [140]] 3).length ≤ 1) : D = [[5]] :=
  near_one (k := 1) (m := 2) (Wd := 1) (n := 3) (most := 1) (by decide) (by decide) rfl (by decide) (D0 := [[5], [7], [140]]) rfl hD rfl hw (by intro r hr; rw [List.mem_singleton] at hr; subst hr; rfl) h (by rw [exDif]; decide)
theorem exNo {D : List (List UInt8)} (hD : D.length = 1) (hw : ∀ r ∈ D, r.length = 1) : 0 < (Loc.dif (Cod.shards 1 D 3) [[5], [7], [139]] 3).length := by
  refine Nat.pos_of_ne_zero fun h => ?_
  have hf := Loc.few_fits (W := 1) (n := 3) (L := [[5], [7], [139]]) rfl hD hw
  rw [List.eq_nil_of_length_eq_zero h] at hf
  have h0 := hf.2.2 0 (by decide) (by simp)
  have h1 := hf.2.2 1 (by decide) (by simp)
  have he : Cod.evn D = true := by
    rw [Cod.evn_true]
    intro r hr
    rw [hw r hr, Cod.len0_eq (by omega), hw _ (List.getElem_mem _)]
  rw [Cod.shard_data hD (by decide) he] at h0
  have hD5 : D = [[5]] := by
    rcases D with _ | ⟨r, _ | ⟨s, l⟩⟩
    · simp at hD
    · simp at h0
      rw [← h0]
    · simp at hD
  rw [hD5] at h1
  exact absurd h1 (by decide +kernel)
theorem width_one {k : Nat} {D : List (List UInt8)} {W : World} {L : List RowB} {B : Nat} (hR : RowsAt W B L) (hb : ∀ r ∈ L, r.bs.length = k) : ∀ r ∈ L, r.n = k := fun r hr => by rw [← (hR r hr).len]; exact hb r hr
set_option maxHeartbeats 4000000 in
theorem lawFinds (w : World) : Calls Try.prog 7 #[] w fun e w' => e = .returned (.bool true) ∧ Below w.heap.size w w' := by
  go_enter Try.func7, Try.ntmps7
  go_wp2_with fail
  refine (fldNewA _).mono ?_
  rintro e w1 ⟨rfl, hf, hz, hb0⟩
  have hb1 := hb0 w.heap.size w (Nat.le_refl _) (Below.refl _ _)
  have HN1 := Lib.hid (cdNew w.heap.size 1 2 (by decide) (by decide) (by decide) w1 hf)
  clear hb0 hz hf
  go_wp2_with fail
  refine HN1.out.mono ?_
  rintro e w2 ⟨g2, A2, c2, rfl, hg2, hC2, hs2⟩
  have HB2 := Lib.hid (hs2.below hb1 (Nat.le_refl _) hb1.size)
  have HC2 := Lib.hid hC2
  obtain ⟨hr, hR, hal⟩ := litN w2 5 [(⟨some ⟨w2.heap.size, 0, none⟩, 1, 1, [5]⟩ : RowB)] (.int .u8 5) rfl #[.slice (some ⟨w2.heap.size, 0, none⟩) 1 1] rfl (fun r hr => by rw [List.mem_singleton] at hr; exact .inl hr)
  have HA := Lib.hid (cdAllR (hC2.below hal) [(⟨some ⟨w2.heap.size, 0, none⟩, 1, 1, [5]⟩ : RowB)] _ (some ⟨w2.heap.size + 1, 0, none⟩) 1 hr hR (Nat.le_refl _) rfl rfl (by intro r hr; rw [List.mem_singleton] at hr; subst hr; show 1 ≤ 1000000000; decide))
  rw [show bss [(⟨some ⟨w2.heap.size, 0, none⟩, 1, 1, [5]⟩ : RowB)] = [[5]] from rfl, show 1 + 2 = 3 from rfl, exSh] at HA
  have HAL := Lib.hid hal
  clear hs2 HN1 hb1 hg2 hC2 hr hR hal
  go_wp2_with fail
  refine HA.out.mono ?_
  rintro e w3 ⟨A3, n3, c3, L3, rfl, hL3, hn3, ho3, hR3, hb3⟩
  have HB23 := Lib.hid (HAL.out.via hb3)
  have HB3 := Lib.hid (HB2.out.via HB23.out)
  have HC3 := Lib.hid (HC2.out.below HB23.out)
  obtain ⟨⟨a0, m0, k0, b0⟩, ⟨a1, m1, k1, b1⟩, ⟨a2, m2, k2, b2⟩, rfl, e0, e1, e2⟩ := three_rows hL3
  simp only at e0 e1 e2
  subst e0 e1 e2
  obtain rfl : n3 = 3 := hn3.symm
  have HQ := Lib.hid hR3.at
  obtain rfl : m0 = 1 := (HQ.out ⟨a0, m0, k0, [5]⟩ (by simp)).len.symm
  obtain rfl : m1 = 1 := (HQ.out ⟨a1, m1, k1, [5]⟩ (by simp)).len.symm
  obtain rfl : m2 = 1 := (HQ.out ⟨a2, m2, k2, [140]⟩ (by simp)).len.symm
  obtain ⟨gA, rfl, _⟩ := own_at ho3 (by decide)
  have hab : gA < w3.heap.size := (ho3.lt gA rfl).2
  have hc0 : w3.cell? ⟨gA, 0, none⟩ = some (.slice a0 1 k0) := ho3.cellAt 0 (by decide)
  have hc1 : w3.cell? ⟨gA, 1, none⟩ = some (.slice a1 1 k1) := ho3.cellAt 1 (by decide)
  have hc2 : w3.cell? ⟨gA, 2, none⟩ = some (.slice a2 1 k2) := ho3.cellAt 2 (by decide)
  obtain ⟨d1, rfl, hd1b, hd1⟩ := (HQ.out ⟨a1, 1, k1, [5]⟩ (by simp)).rd (by simp)
  have hd1 := hd1 0 (by simp)
  obtain ⟨d2, rfl, hd2b, hd2⟩ := (HQ.out ⟨a2, 1, k2, [140]⟩ (by simp)).rd (by simp)
  have hd2 := hd2 0 (by simp)
  rw [addr_add_zero] at hd1 hd2
  have hd1 : w3.cell? d1 = some (.int .u8 5) := hd1
  have hd2 : w3.cell? d2 = some (.int .u8 140) := hd2
  have HCE : Hid (∀ V, Below w3.heap.size w3 V → V.cell? ⟨gA, 0, none⟩ = some (.slice a0 1 k0) ∧ V.cell? ⟨gA, 1, none⟩ = some (.slice (some d1) 1 k1) ∧ V.cell? ⟨gA, 2, none⟩ = some (.slice (some d2) 1 k2) ∧ V.cell? d1 = some (.int .u8 5) ∧ V.cell? d2 = some (.int .u8 140)) := Lib.hid fun V hV => ⟨(hV.cell (p := ⟨gA, 0, none⟩) hab).trans hc0, (hV.cell (p := ⟨gA, 1, none⟩) hab).trans hc1, (hV.cell (p := ⟨gA, 2, none⟩) hab).trans hc2, (hV.cell (p := d1) hd1b).trans hd1, (hV.cell (p := d2) hd2b).trans hd2⟩
  have HO3 := Lib.hid ho3
  have HR3 := Lib.hid hR3
  clear ho3 hR3 hb3 hL3 hn3 HA HAL HB2 HB23 HC2 hc0 hc1 hc2 hd1 hd2 hab hd1b hd2b
  have hx7 : bits .xor .u8 5 2 = 7 := by decide
  have HD0 : Hid (Below w3.heap.size w3 w3.drew) := Lib.hid (below_drewN (Below.refl _ _) 1)
  have HD1 : Hid (Below w3.heap.size w3 (w3.alloc (.cells #[.int .u8 7] 5)).drew) := Lib.hid (HD0.out.alloc (Nat.le_refl _) (.cells #[.int .u8 7] 5))
  have HD2 : Hid (Below w3.heap.size w3 ((w3.alloc (.cells #[.int .u8 7] 5)).alloc (.cells #[.slice a0 1 k0, .slice (some ⟨w3.heap.size, 0, none⟩) 1 1, .slice (some d2) 1 k2] 22)).drew) := Lib.hid (HD1.out.alloc (by simp) (.cells #[.slice a0 1 k0, .slice (some ⟨w3.heap.size, 0, none⟩) 1 1, .slice (some d2) 1 k2] 22))
  have HLT : Hid (Rd ((w3.alloc (.cells #[.int .u8 7] 5)).alloc (.cells #[.slice a0 1 k0, .slice (some ⟨w3.heap.size, 0, none⟩) 1 1, .slice (some d2) 1 k2] 22)).drew ((w3.alloc (.cells #[.int .u8 7] 5)).alloc (.cells #[.slice a0 1 k0, .slice (some ⟨w3.heap.size, 0, none⟩) 1 1, .slice (some d2) 1 k2] 22)).drew.heap.size (some ⟨w3.heap.size + 1, 0, none⟩) ([(⟨a0, 1, k0, [5]⟩ : RowB), ⟨some ⟨w3.heap.size, 0, none⟩, 1, 1, [7]⟩, ⟨some d2, 1, k2, [140]⟩].map RowB.v) ∧ RowsAt ((w3.alloc (.cells #[.int .u8 7] 5)).alloc (.cells #[.slice a0 1 k0, .slice (some ⟨w3.heap.size, 0, none⟩) 1 1, .slice (some d2) 1 k2] 22)).drew ((w3.alloc (.cells #[.int .u8 7] 5)).alloc (.cells #[.slice a0 1 k0, .slice (some ⟨w3.heap.size, 0, none⟩) 1 1, .slice (some d2) 1 k2] 22)).drew.heap.size [(⟨a0, 1, k0, [5]⟩ : RowB), ⟨some ⟨w3.heap.size, 0, none⟩, 1, 1, [7]⟩, ⟨some d2, 1, k2, [140]⟩]) := Lib.hid (by
    have h := litN w3.drew 7 [(⟨a0, 1, k0, [5]⟩ : RowB), ⟨some ⟨w3.heap.size, 0, none⟩, 1, 1, [7]⟩, ⟨some d2, 1, k2, [140]⟩] (.int .u8 7) rfl #[.slice a0 1 k0, .slice (some ⟨w3.heap.size, 0, none⟩) 1 1, .slice (some d2) 1 k2] rfl (fun r hr => by
      simp only [List.mem_cons, List.not_mem_nil, or_false] at hr
      rcases hr with rfl | rfl | rfl
      · exact .inr (((HQ.out ⟨a0, 1, k0, [5]⟩ (by simp)).below HD0.out).more HD0.out.size)
      · exact .inl rfl
      · exact .inr (((HQ.out ⟨some d2, 1, k2, [140]⟩ (by simp)).below HD0.out).more HD0.out.size))
    exact ⟨h.1, h.2.1⟩)
  go_upto_region 5 with fail
  refine wp_region_held_drew (S := (fun wQq => Below w3.heap.size w3 wQq)) (by kernel_rfl) (HD0.out) (fun _ => ?_)
  refine wpAnyH_take (i := 0) (v := ?_) rfl (by kernel_rfl) (by kernel_rfl) (by kernel_rfl) (fun _ _ _ h => h) (Or.inl ⟨by rfl, ?_⟩) (HD0.out) ?_
  rotate_left
  · intro wS hSw
    go_simp
    try with_reducible rfl
  try simp only [List.getElem_toArray, List.getElem_cons_zero, List.getElem_cons_succ, Act.put, List.setIfInBounds_toArray, List.set_cons_zero, List.set_cons_succ]
  refine wpAnyH_take (i := 1) (v := ?_) rfl (by kernel_rfl) (by kernel_rfl) (by kernel_rfl) (fun _ _ _ h => h) (Or.inl ⟨by rfl, ?_⟩) (HD0.out) ?_
  rotate_left
  · intro wS hSw
    go_simp
    try with_reducible rfl
  try simp only [List.getElem_toArray, List.getElem_cons_zero, List.getElem_cons_succ, Act.put, List.setIfInBounds_toArray, List.set_cons_zero, List.set_cons_succ]
  refine wpAnyH_take (i := 3) (v := ?_) rfl (by kernel_rfl) (by kernel_rfl) (by kernel_rfl) (fun _ _ _ h => h) (Or.inl ⟨by rfl, ?_⟩) (HD0.out) ?_
  rotate_left
  · intro wS hSw
    go_simp
    try with_reducible rfl
  try simp only [List.getElem_toArray, List.getElem_cons_zero, List.getElem_cons_succ, Act.put, List.setIfInBounds_toArray, List.set_cons_zero, List.set_cons_succ]
  refine wpAnyH_take (i := 4) (v := ?_) rfl (by kernel_rfl) (by kernel_rfl) (by kernel_rfl) (fun _ _ _ h => h) (Or.inl ⟨by rfl, ?_⟩) (HD0.out) ?_
  rotate_left
  · intro wS hSw
    go_simp
    try with_reducible rfl
  try simp only [List.getElem_toArray, List.getElem_cons_zero, List.getElem_cons_succ, Act.put, List.setIfInBounds_toArray, List.set_cons_zero, List.set_cons_succ]
  refine wpAnyH_take (i := 10) (v := ?_) rfl (by kernel_rfl) (by kernel_rfl) (by kernel_rfl) (fun _ _ _ h => h) (Or.inl ⟨by rfl, ?_⟩) (HD0.out) ?_
  rotate_left
  · intro wS hSw
    go_simp
    try with_reducible rfl
  try simp only [List.getElem_toArray, List.getElem_cons_zero, List.getElem_cons_succ, Act.put, List.setIfInBounds_toArray, List.set_cons_zero, List.set_cons_succ]
  refine wpAnyH_take (i := 11) (v := ?_) rfl (by kernel_rfl) (by kernel_rfl) (by kernel_rfl) (fun _ _ _ h => h) (Or.inl ⟨by rfl, ?_⟩) (HD0.out) ?_
  rotate_left
  · intro wS hSw
    go_simp
    try with_reducible rfl
  try simp only [List.getElem_toArray, List.getElem_cons_zero, List.getElem_cons_succ, Act.put, List.setIfInBounds_toArray, List.set_cons_zero, List.set_cons_succ]
  refine wpAnyH_take (i := 2) (v := ?_) rfl (by kernel_rfl) (by kernel_rfl) (by kernel_rfl) (fun _ _ _ h => h) (Or.inl ⟨by rfl, ?_⟩) (HD0.out) ?_
  rotate_left
  · intro wS hSw
    have hcv := (HCE.out _ hSw).1
    go_simp
    try with_reducible rfl
  try simp only [List.getElem_toArray, List.getElem_cons_zero, List.getElem_cons_succ, Act.put, List.setIfInBounds_toArray, List.set_cons_zero, List.set_cons_succ]
  refine wpAnyH_take (i := 5) (v := ?_) rfl (by kernel_rfl) (by kernel_rfl) (by kernel_rfl) (fun _ _ _ h => h) (Or.inl ⟨by rfl, ?_⟩) (HD0.out) ?_
  rotate_left
  · intro wS hSw
    have hcv := (HCE.out _ hSw).2.1
    go_simp
    try with_reducible rfl
  try simp only [List.getElem_toArray, List.getElem_cons_zero, List.getElem_cons_succ, Act.put, List.setIfInBounds_toArray, List.set_cons_zero, List.set_cons_succ]
  refine wpAnyH_take (i := 6) (v := ?_) rfl (by kernel_rfl) (by kernel_rfl) (by kernel_rfl) (fun _ _ _ h => h) (Or.inl ⟨by rfl, ?_⟩) (HD0.out) ?_
  rotate_left
  · intro wS hSw
    go_simp
    try with_reducible rfl
  try simp only [List.getElem_toArray, List.getElem_cons_zero, List.getElem_cons_succ, Act.put, List.setIfInBounds_toArray, List.set_cons_zero, List.set_cons_succ]
  refine wpAnyH_take (i := 7) (v := ?_) rfl (by kernel_rfl) (by kernel_rfl) (by kernel_rfl) (fun _ _ _ h => h) (Or.inl ⟨by rfl, ?_⟩) (HD0.out) ?_
  rotate_left
  · intro wS hSw
    have hcv := (HCE.out _ hSw).2.2.2.1
    go_simp
    try with_reducible rfl
  try simp only [List.getElem_toArray, List.getElem_cons_zero, List.getElem_cons_succ, Act.put, List.setIfInBounds_toArray, List.set_cons_zero, List.set_cons_succ]
  refine wpAnyH_take (i := 8) (v := ?_) rfl (by kernel_rfl) (by kernel_rfl) (by kernel_rfl) (fun _ _ _ h => h) (Or.inl ⟨by rfl, ?_⟩) (HD0.out) ?_
  rotate_left
  · intro wS hSw
    go_simp
    try with_reducible rfl
  try simp only [List.getElem_toArray, List.getElem_cons_zero, List.getElem_cons_succ, Act.put, List.setIfInBounds_toArray, List.set_cons_zero, List.set_cons_succ]
  refine wpAnyH_take (i := 12) (v := ?_) rfl (by kernel_rfl) (by kernel_rfl) (by kernel_rfl) (fun _ _ _ h => h) (Or.inl ⟨by rfl, ?_⟩) (HD0.out) ?_
  rotate_left
  · intro wS hSw
    have hcv := (HCE.out _ hSw).2.2.1
    go_simp
    try with_reducible rfl
  try simp only [List.getElem_toArray, List.getElem_cons_zero, List.getElem_cons_succ, Act.put, List.setIfInBounds_toArray, List.set_cons_zero, List.set_cons_succ]
  refine wpAnyH_ready (rs := [9]) (by kernel_rfl) (by simp) ?_
  refine AllReadyH.cons rfl (fun K hK => ?_) AllReadyH.nil
  go_simp
  refine hK.out _ _ HD1.out (fun _ => ?_)
  clear hK K
  try simp only [List.getElem_toArray, List.getElem_cons_zero, List.getElem_cons_succ, Act.put, List.setIfInBounds_toArray, List.set_cons_zero, List.set_cons_succ]
  refine wpAnyH_ready (rs := [13]) (by kernel_rfl) (by simp) ?_
  refine AllReadyH.cons rfl (fun K hK => ?_) AllReadyH.nil
  go_simp
  refine hK.out _ _ HD2.out (fun _ => ?_)
  clear hK K
  try simp only [List.getElem_toArray, List.getElem_cons_zero, List.getElem_cons_succ, Act.put, List.setIfInBounds_toArray, List.set_cons_zero, List.set_cons_succ]
  refine wpAnyH_take (i := 14) (v := ?_) rfl (by kernel_rfl) (by kernel_rfl) (by kernel_rfl) (fun _ _ _ h => h) (Or.inl ⟨by rfl, ?_⟩) HD2.out ?_
  rotate_left
  · intro wS hSw
    go_simp
    try with_reducible rfl
  try simp only [List.getElem_toArray, List.getElem_cons_zero, List.getElem_cons_succ, Act.put, List.setIfInBounds_toArray, List.set_cons_zero, List.set_cons_succ]
  refine wpAnyH_done (by kernel_rfl) ?_ _
  clear HD0 HD1 hx7
  obtain ⟨X, hX⟩ : ∃ X, X = w3.heap.size := ⟨_, rfl⟩
  rw [← hX] at HD2 HLT
  rw [← hX]
  generalize ((w3.alloc (.cells #[.int .u8 7] 5)).alloc (.cells #[.slice a0 1 k0, .slice (some ⟨X, 0, none⟩) 1 1, .slice (some d2) 1 k2] 22)).drew = w5 at *
  rw [hX] at HD2
  have HX := Lib.hid hX
  clear hX
  have HFD := Lib.hid fun V (hV : Below w5.heap.size w5 V) => locFind (HC3.out.below (HD2.out.via hV)) [(⟨a0, 1, k0, [5]⟩ : RowB), ⟨some ⟨X, 0, none⟩, 1, 1, [7]⟩, ⟨some d2, 1, k2, [140]⟩] V.heap.size (some ⟨X + 1, 0, none⟩) 3 3 ((HLT.out.1.below hV).more hV.size) (fun r hr => ((HLT.out.2 r hr).below hV).more hV.size) (Nat.le_refl _) rfl rfl (Nat.le_refl _) (by unfold maxLen; omega) 1 (by decide) (by decide) (by
    intro r hr
    simp only [List.mem_cons, List.not_mem_nil, or_false] at hr
    rcases hr with rfl | rfl | rfl <;> rfl) 1 (by decide) (by decide) (by decide)
  have HF5 : Hid (∀ V, Below w5.heap.size w5 V → Calls Try.prog 14 #[.pointer (some ⟨g2, 0, none⟩), .slice (some ⟨X + 1, 0, none⟩) 3 3, .int .i64 1] V fun e W => Below V.heap.size V W ∧ ∃ A' c' M Ad cd, e = .returned (.tuple #[.slice A' 3 c', .slice Ad 1 cd, .int .i64 0]) ∧ M.length = 3 ∧ Rd W W.heap.size A' (M.map RowB.v) ∧ RowsAt W W.heap.size M ∧ bss M = [[5], [5], [140]] ∧ Rd W W.heap.size Ad ([1].map iv)) := Lib.hid fun V hV => (HFD.out V hV).mono fun e W ⟨hb, hor⟩ => by
    refine ⟨hb, ?_⟩
    rw [show bss [(⟨a0, 1, k0, [5]⟩ : RowB), ⟨some ⟨X, 0, none⟩, 1, 1, [7]⟩, ⟨some d2, 1, k2, [140]⟩] = [[5], [7], [140]] from rfl] at hor
    rcases hor with ⟨A', c', M, D, Ad, qd, cd, rfl, hM, _, _, hrM, hRM, hD, hw, hMD, hq, hqm, hrd⟩ | ⟨_, hno⟩
    · have hD5 := exOne hD hw (by rw [hq]; exact hqm)
      subst hD5
      rw [exDif] at hq hrd
      rw [exSh] at hMD
      obtain rfl : qd = 1 := hq.symm
      exact ⟨A', c', M, Ad, cd, rfl, hM, hrM, hRM, hMD, hrd⟩
    · have := hno [[5]] rfl (by intro r hr; rw [List.mem_singleton] at hr; subst hr; rfl)
      rw [exDif] at this
      exact absurd this (by decide)
  clear HFD
  go_wp2_with fail
  refine (HF5.out w5 (Below.refl _ _)).mono ?_
  rintro e w6 ⟨hb6, A6, c6, M6, Ad6, cd6, rfl, hM6, hr6, hR6, hbs6, hrd6⟩
  have HB56 := Lib.hid hb6
  have HB36 := Lib.hid (HD2.out.via hb6)
  have HM6 := Lib.hid hM6
  have HR6 := Lib.hid hr6
  have HRR6 := Lib.hid hR6
  have HBS6 := Lib.hid hbs6
  have HRD6 := Lib.hid hrd6
  clear hb6 hM6 hr6 hR6 hbs6 hrd6
  have hx9 : bits .xor .u8 140 7 = 139 := by decide
  obtain ⟨gB, e', hgB, hcB⟩ := HLT.out.1.row (k := 1) (by show 1 < 3; decide)
  have hcB : w5.cell? ⟨X + 1, 1, none⟩ = some (.slice (some ⟨X, 0, none⟩) 1 1) := by
    injection e' with e'
    subst e'
    exact hcB
  have hgB : X + 1 < w5.heap.size := by
    injection e' with e'
    subst e'
    exact hgB
  have HCF : Hid (∀ V, Below w6.heap.size w6 V → V.cell? ⟨gA, 0, none⟩ = some (.slice a0 1 k0) ∧ V.cell? ⟨X + 1, 1, none⟩ = some (.slice (some ⟨X, 0, none⟩) 1 1) ∧ V.cell? ⟨gA, 2, none⟩ = some (.slice (some d2) 1 k2) ∧ V.cell? d2 = some (.int .u8 140)) := Lib.hid fun V hV => by
    have h := HCE.out V (HB36.out.via hV)
    exact ⟨h.1, ((HB56.out.via hV).cell (p := ⟨X + 1, 1, none⟩) hgB).trans hcB, h.2.2.1, h.2.2.2.2⟩
  clear e' hcB hgB
  have HE0 : Hid (Below w6.heap.size w6 w6.drew) := Lib.hid (below_drewN (Below.refl _ _) 1)
  have HE1 : Hid (Below w6.heap.size w6 (w6.alloc (.cells #[.int .u8 139] 5)).drew) := Lib.hid (HE0.out.alloc (Nat.le_refl _) (.cells #[.int .u8 139] 5))
  have HE2 : Hid (Below w6.heap.size w6 ((w6.alloc (.cells #[.int .u8 139] 5)).alloc (.cells #[.slice a0 1 k0, .slice (some ⟨X, 0, none⟩) 1 1, .slice (some ⟨w6.heap.size, 0, none⟩) 1 1] 22)).drew) := Lib.hid (HE1.out.alloc (by simp) (.cells #[.slice a0 1 k0, .slice (some ⟨X, 0, none⟩) 1 1, .slice (some ⟨w6.heap.size, 0, none⟩) 1 1] 22))
  have HFN : Hid (Calls Try.prog 14 #[.pointer (some ⟨g2, 0, none⟩), .slice (some ⟨w6.heap.size + 1, 0, none⟩) 3 3, .int .i64 0] ((w6.alloc (.cells #[.int .u8 139] 5)).alloc (.cells #[.slice a0 1 k0, .slice (some ⟨X, 0, none⟩) 1 1, .slice (some ⟨w6.heap.size, 0, none⟩) 1 1] 22)).drew fun e W => e = .returned (.tuple #[.slice none 0 0, .slice none 0 0, .int .i64 80]) ∧ Below w6.heap.size w6 W) := Lib.hid (by
    have h := litN w6.drew 139 [(⟨a0, 1, k0, [5]⟩ : RowB), ⟨some ⟨X, 0, none⟩, 1, 1, [7]⟩, ⟨some ⟨w6.heap.size, 0, none⟩, 1, 1, [139]⟩] (.int .u8 139) rfl #[.slice a0 1 k0, .slice (some ⟨X, 0, none⟩) 1 1, .slice (some ⟨w6.heap.size, 0, none⟩) 1 1] rfl (fun r hr => by
      simp only [List.mem_cons, List.not_mem_nil, or_false] at hr
      rcases hr with rfl | rfl | rfl
      · exact .inr (((HLT.out.2 ⟨a0, 1, k0, [5]⟩ (by simp)).below (HB56.out.via HE0.out)).more (HB56.out.via HE0.out).size)
      · exact .inr (((HLT.out.2 ⟨some ⟨X, 0, none⟩, 1, 1, [7]⟩ (by simp)).below (HB56.out.via HE0.out)).more (HB56.out.via HE0.out).size)
      · exact .inl rfl)
    have hF := locFind (w := ((w6.alloc (.cells #[.int .u8 139] 5)).alloc (.cells #[.slice a0 1 k0, .slice (some ⟨X, 0, none⟩) 1 1, .slice (some ⟨w6.heap.size, 0, none⟩) 1 1] 22)).drew) (HC3.out.below (HB36.out.via HE2.out)) [(⟨a0, 1, k0, [5]⟩ : RowB), ⟨some ⟨X, 0, none⟩, 1, 1, [7]⟩, ⟨some ⟨w6.heap.size, 0, none⟩, 1, 1, [139]⟩] _ (some ⟨w6.heap.size + 1, 0, none⟩) 3 3 h.1 h.2.1 (Nat.le_refl _) rfl rfl (Nat.le_refl _) (by unfold maxLen; omega) 1 (by decide) (by decide) (by
      intro r hr
      simp only [List.mem_cons, List.not_mem_nil, or_false] at hr
      rcases hr with rfl | rfl | rfl <;> rfl) 0 (by decide) (by decide) (by decide)
    refine hF.mono fun e W ⟨hb, hor⟩ => ?_
    rw [show bss [(⟨a0, 1, k0, [5]⟩ : RowB), ⟨some ⟨X, 0, none⟩, 1, 1, [7]⟩, ⟨some ⟨w6.heap.size, 0, none⟩, 1, 1, [139]⟩] = [[5], [7], [139]] from rfl] at hor
    rcases hor with ⟨A', c', M, D, Ad, qd, cd, _, _, _, _, _, _, hD, hw, _, hq, hqm, _⟩ | ⟨rfl, _⟩
    · have := exNo hD hw
      omega
    · exact ⟨rfl, HE2.out.via hb⟩)
  go_upto_region 7 with fail
  refine wp_region_held_drew (S := (fun wQq => Below w6.heap.size w6 wQq)) (by kernel_rfl) (HE0.out) (fun _ => ?_)
  refine wpAnyH_take (i := 0) (v := ?_) rfl (by kernel_rfl) (by kernel_rfl) (by kernel_rfl) (fun _ _ _ h => h) (Or.inl ⟨by rfl, ?_⟩) (HE0.out) ?_
  rotate_left
  · intro wS hSw
    go_simp
    try with_reducible rfl
  try simp only [List.getElem_toArray, List.getElem_cons_zero, List.getElem_cons_succ, Act.put, List.setIfInBounds_toArray, List.set_cons_zero, List.set_cons_succ]
  refine wpAnyH_take (i := 1) (v := ?_) rfl (by kernel_rfl) (by kernel_rfl) (by kernel_rfl) (fun _ _ _ h => h) (Or.inl ⟨by rfl, ?_⟩) (HE0.out) ?_
  rotate_left
  · intro wS hSw
    go_simp
    try with_reducible rfl
  try simp only [List.getElem_toArray, List.getElem_cons_zero, List.getElem_cons_succ, Act.put, List.setIfInBounds_toArray, List.set_cons_zero, List.set_cons_succ]
  refine wpAnyH_take (i := 2) (v := ?_) rfl (by kernel_rfl) (by kernel_rfl) (by kernel_rfl) (fun _ _ _ h => h) (Or.inl ⟨by rfl, ?_⟩) (HE0.out) ?_
  rotate_left
  · intro wS hSw
    go_simp
    try with_reducible rfl
  try simp only [List.getElem_toArray, List.getElem_cons_zero, List.getElem_cons_succ, Act.put, List.setIfInBounds_toArray, List.set_cons_zero, List.set_cons_succ]
  refine wpAnyH_take (i := 4) (v := ?_) rfl (by kernel_rfl) (by kernel_rfl) (by kernel_rfl) (fun _ _ _ h => h) (Or.inl ⟨by rfl, ?_⟩) (HE0.out) ?_
  rotate_left
  · intro wS hSw
    go_simp
    try with_reducible rfl
  try simp only [List.getElem_toArray, List.getElem_cons_zero, List.getElem_cons_succ, Act.put, List.setIfInBounds_toArray, List.set_cons_zero, List.set_cons_succ]
  refine wpAnyH_take (i := 5) (v := ?_) rfl (by kernel_rfl) (by kernel_rfl) (by kernel_rfl) (fun _ _ _ h => h) (Or.inl ⟨by rfl, ?_⟩) (HE0.out) ?_
  rotate_left
  · intro wS hSw
    go_simp
    try with_reducible rfl
  try simp only [List.getElem_toArray, List.getElem_cons_zero, List.getElem_cons_succ, Act.put, List.setIfInBounds_toArray, List.set_cons_zero, List.set_cons_succ]
  refine wpAnyH_take (i := 7) (v := ?_) rfl (by kernel_rfl) (by kernel_rfl) (by kernel_rfl) (fun _ _ _ h => h) (Or.inl ⟨by rfl, ?_⟩) (HE0.out) ?_
  rotate_left
  · intro wS hSw
    go_simp
    try with_reducible rfl
  try simp only [List.getElem_toArray, List.getElem_cons_zero, List.getElem_cons_succ, Act.put, List.setIfInBounds_toArray, List.set_cons_zero, List.set_cons_succ]
  refine wpAnyH_take (i := 8) (v := ?_) rfl (by kernel_rfl) (by kernel_rfl) (by kernel_rfl) (fun _ _ _ h => h) (Or.inl ⟨by rfl, ?_⟩) (HE0.out) ?_
  rotate_left
  · intro wS hSw
    go_simp
    try with_reducible rfl
  try simp only [List.getElem_toArray, List.getElem_cons_zero, List.getElem_cons_succ, Act.put, List.setIfInBounds_toArray, List.set_cons_zero, List.set_cons_succ]
  refine wpAnyH_take (i := 3) (v := ?_) rfl (by kernel_rfl) (by kernel_rfl) (by kernel_rfl) (fun _ _ _ h => h) (Or.inl ⟨by rfl, ?_⟩) (HE0.out) ?_
  rotate_left
  · intro wS hSw
    have hcv := (HCF.out _ hSw).1
    go_simp
    try with_reducible rfl
  try simp only [List.getElem_toArray, List.getElem_cons_zero, List.getElem_cons_succ, Act.put, List.setIfInBounds_toArray, List.set_cons_zero, List.set_cons_succ]
  refine wpAnyH_take (i := 6) (v := ?_) rfl (by kernel_rfl) (by kernel_rfl) (by kernel_rfl) (fun _ _ _ h => h) (Or.inl ⟨by rfl, ?_⟩) (HE0.out) ?_
  rotate_left
  · intro wS hSw
    have hcv := (HCF.out _ hSw).2.1
    go_simp
    try with_reducible rfl
  try simp only [List.getElem_toArray, List.getElem_cons_zero, List.getElem_cons_succ, Act.put, List.setIfInBounds_toArray, List.set_cons_zero, List.set_cons_succ]
  refine wpAnyH_take (i := 9) (v := ?_) rfl (by kernel_rfl) (by kernel_rfl) (by kernel_rfl) (fun _ _ _ h => h) (Or.inl ⟨by rfl, ?_⟩) (HE0.out) ?_
  rotate_left
  · intro wS hSw
    have hcv := (HCF.out _ hSw).2.2.1
    go_simp
    try with_reducible rfl
  try simp only [List.getElem_toArray, List.getElem_cons_zero, List.getElem_cons_succ, Act.put, List.setIfInBounds_toArray, List.set_cons_zero, List.set_cons_succ]
  refine wpAnyH_take (i := 10) (v := ?_) rfl (by kernel_rfl) (by kernel_rfl) (by kernel_rfl) (fun _ _ _ h => h) (Or.inl ⟨by rfl, ?_⟩) (HE0.out) ?_
  rotate_left
  · intro wS hSw
    go_simp
    try with_reducible rfl
  try simp only [List.getElem_toArray, List.getElem_cons_zero, List.getElem_cons_succ, Act.put, List.setIfInBounds_toArray, List.set_cons_zero, List.set_cons_succ]
  refine wpAnyH_take (i := 11) (v := ?_) rfl (by kernel_rfl) (by kernel_rfl) (by kernel_rfl) (fun _ _ _ h => h) (Or.inl ⟨by rfl, ?_⟩) (HE0.out) ?_
  rotate_left
  · intro wS hSw
    have hcv := (HCF.out _ hSw).2.2.2
    go_simp
    try with_reducible rfl
  try simp only [List.getElem_toArray, List.getElem_cons_zero, List.getElem_cons_succ, Act.put, List.setIfInBounds_toArray, List.set_cons_zero, List.set_cons_succ]
  refine wpAnyH_take (i := 12) (v := ?_) rfl (by kernel_rfl) (by kernel_rfl) (by kernel_rfl) (fun _ _ _ h => h) (Or.inl ⟨by rfl, ?_⟩) (HE0.out) ?_
  rotate_left
  · intro wS hSw
    go_simp
    try with_reducible rfl
  try simp only [List.getElem_toArray, List.getElem_cons_zero, List.getElem_cons_succ, Act.put, List.setIfInBounds_toArray, List.set_cons_zero, List.set_cons_succ]
  refine wpAnyH_ready (rs := [13]) (by kernel_rfl) (by simp) ?_
  refine AllReadyH.cons rfl (fun K hK => ?_) AllReadyH.nil
  go_simp
  refine hK.out _ _ HE1.out (fun _ => ?_)
  clear hK K
  try simp only [List.getElem_toArray, List.getElem_cons_zero, List.getElem_cons_succ, Act.put, List.setIfInBounds_toArray, List.set_cons_zero, List.set_cons_succ]
  refine wpAnyH_ready (rs := [14]) (by kernel_rfl) (by simp) ?_
  refine AllReadyH.cons rfl (fun K hK => ?_) AllReadyH.nil
  go_simp
  refine hK.out _ _ HE2.out (fun _ => ?_)
  clear hK K
  try simp only [List.getElem_toArray, List.getElem_cons_zero, List.getElem_cons_succ, Act.put, List.setIfInBounds_toArray, List.set_cons_zero, List.set_cons_succ]
  refine wpAnyH_ready (rs := [15]) (by kernel_rfl) (by simp) ?_
  refine AllReadyH.cons rfl (fun K hK => ?_) AllReadyH.nil
  go_simp
  refine HFN.out.mono ?_
  rintro e w8 ⟨rfl, hb8⟩
  have HE3 := Lib.hid hb8
  refine hK.out _ _ HE3.out (fun _ => ?_)
  clear hK K
  try simp only [List.getElem_toArray, List.getElem_cons_zero, List.getElem_cons_succ, Act.put, List.setIfInBounds_toArray, List.set_cons_zero, List.set_cons_succ]
  refine wpAnyH_take (i := 16) (v := ?_) rfl (by kernel_rfl) (by kernel_rfl) (by kernel_rfl) (fun _ _ _ h => h) (Or.inl ⟨by rfl, ?_⟩) HE3.out ?_
  rotate_left
  · intro wS hSw
    go_simp
    try with_reducible rfl
  try simp only [List.getElem_toArray, List.getElem_cons_zero, List.getElem_cons_succ, Act.put, List.setIfInBounds_toArray, List.set_cons_zero, List.set_cons_succ]
  refine wpAnyH_take (i := 17) (v := ?_) rfl (by kernel_rfl) (by kernel_rfl) (by kernel_rfl) (fun _ _ _ h => h) (Or.inl ⟨by rfl, ?_⟩) HE3.out ?_
  rotate_left
  · intro wS hSw
    go_simp
    try with_reducible rfl
  try simp only [List.getElem_toArray, List.getElem_cons_zero, List.getElem_cons_succ, Act.put, List.setIfInBounds_toArray, List.set_cons_zero, List.set_cons_succ]
  refine wpAnyH_take (i := 18) (v := ?_) rfl (by kernel_rfl) (by kernel_rfl) (by kernel_rfl) (fun _ _ _ h => h) (Or.inl ⟨by rfl, ?_⟩) HE3.out ?_
  rotate_left
  · intro wS hSw
    go_simp
    try with_reducible rfl
  try simp only [List.getElem_toArray, List.getElem_cons_zero, List.getElem_cons_succ, Act.put, List.setIfInBounds_toArray, List.set_cons_zero, List.set_cons_succ]
  refine wpAnyH_take (i := 19) (v := ?_) rfl (by kernel_rfl) (by kernel_rfl) (by kernel_rfl) (fun _ _ _ h => h) (Or.inl ⟨by rfl, ?_⟩) HE3.out ?_
  rotate_left
  · intro wS hSw
    go_simp
    try with_reducible rfl
  try simp only [List.getElem_toArray, List.getElem_cons_zero, List.getElem_cons_succ, Act.put, List.setIfInBounds_toArray, List.set_cons_zero, List.set_cons_succ]
  refine wpAnyH_take (i := 20) (v := ?_) rfl (by kernel_rfl) (by kernel_rfl) (by kernel_rfl) (fun _ _ _ h => h) (Or.inl ⟨by rfl, ?_⟩) HE3.out ?_
  rotate_left
  · intro wS hSw
    go_simp
    try with_reducible rfl
  try simp only [List.getElem_toArray, List.getElem_cons_zero, List.getElem_cons_succ, Act.put, List.setIfInBounds_toArray, List.set_cons_zero, List.set_cons_succ]
  refine wpAnyH_take (i := 21) (v := ?_) rfl (by kernel_rfl) (by kernel_rfl) (by kernel_rfl) (fun _ _ _ h => h) (Or.inl ⟨by rfl, ?_⟩) HE3.out ?_
  rotate_left
  · intro wS hSw
    go_simp
    try with_reducible rfl
  try simp only [List.getElem_toArray, List.getElem_cons_zero, List.getElem_cons_succ, Act.put, List.setIfInBounds_toArray, List.set_cons_zero, List.set_cons_succ]
  refine wpAnyH_take (i := 22) (v := ?_) rfl (by kernel_rfl) (by kernel_rfl) (by kernel_rfl) (fun _ _ _ h => h) (Or.inl ⟨by rfl, ?_⟩) HE3.out ?_
  rotate_left
  · intro wS hSw
    go_simp
    try with_reducible rfl
  try simp only [List.getElem_toArray, List.getElem_cons_zero, List.getElem_cons_succ, Act.put, List.setIfInBounds_toArray, List.set_cons_zero, List.set_cons_succ]
  refine wpAnyH_done (by kernel_rfl) ?_ _
  clear HE0 HE1 HE2 HFN hx9 HCF hb8
  have HB58 := Lib.hid (HB56.out.via HE3.out)
  have HB38 := Lib.hid (HB36.out.via HE3.out)
  have HS8 := Lib.hid (refSame5 M6 [(⟨a0, 1, k0, [5]⟩ : RowB), ⟨some d1, 1, k1, [5]⟩, ⟨some d2, 1, k2, [140]⟩] w8.heap.size A6 (some ⟨gA, 0, none⟩) 3 c6 3 c3 w8 ((HR6.out.below HE3.out).more HE3.out.size) (fun r hr => ((HRR6.out r hr).below HE3.out).more HE3.out.size) (Rd.of_own (own_via HO3.out HB38.out)) (HR3.out.below HB38.out).at HM6.out rfl (Nat.le_refl _) (by unfold maxLen; omega) (by unfold maxLen; omega))
  have HSE : Hid (bss M6 = bss [(⟨a0, 1, k0, [5]⟩ : RowB), ⟨some d1, 1, k1, [5]⟩, ⟨some d2, 1, k2, [140]⟩]) := Lib.hid HBS6.out
  obtain ⟨adl, rfl, hdl⟩ := rd_int (HRD6.out.below HE3.out) (k := 0) (by show 0 < 1; decide)
  rw [addr_add_zero] at hdl
  have hdl : w8.cell? adl = some (.int .i64 1) := hdl
  have hbl := block_lt_of_cell hdl
  go_wp2_with fail
  refine HS8.out.mono ?_
  rintro e w9 ⟨⟨x, rfl, hx⟩, hb9⟩
  obtain rfl : x = true := hx.2 HSE.out
  have hdl9 := (hb9.cell (p := adl) hbl).trans hdl
  have HB59 := Lib.hid (HB58.out.via hb9)
  have HB39 := Lib.hid (HB38.out.via hb9)
  have HCL := Lib.hid (locClose (.pointer (some ⟨g2, 0, none⟩)) (some ⟨X + 1, 0, none⟩) 3 3 1 1 w9 ((HF5.out w9 HB59.out).mono fun e W ⟨hb, A', c', M, Ad, cd, he, _⟩ => ⟨A', 3, c', Ad, 1, cd, 0, he, hb, .inl ⟨rfl, rfl⟩⟩))
  clear hx hb9 hdl hbl HS8 HSE
  go_wp2_with fail
  refine HCL.out.mono ?_
  rintro e wa ⟨rfl, hba⟩
  have HB5a := Lib.hid (HB59.out.via hba)
  have HB3a := Lib.hid (HB39.out.via hba)
  have HDF := Lib.hid (locDiffer [(⟨a0, 1, k0, [5]⟩ : RowB), ⟨some ⟨X, 0, none⟩, 1, 1, [7]⟩, ⟨some d2, 1, k2, [140]⟩] [(⟨a0, 1, k0, [5]⟩ : RowB), ⟨some d1, 1, k1, [5]⟩, ⟨some d2, 1, k2, [140]⟩] wa.heap.size (some ⟨X + 1, 0, none⟩) (some ⟨gA, 0, none⟩) 3 3 3 c3 wa ((HLT.out.1.below HB5a.out).more HB5a.out.size) (fun r hr => ((HLT.out.2 r hr).below HB5a.out).more HB5a.out.size) (Rd.of_own (own_via HO3.out HB3a.out)) (HR3.out.below HB3a.out).at rfl rfl (Nat.le_refl _) (by decide) (by decide))
  rw [show bss [(⟨a0, 1, k0, [5]⟩ : RowB), ⟨some ⟨X, 0, none⟩, 1, 1, [7]⟩, ⟨some d2, 1, k2, [140]⟩] = [[5], [7], [140]] from rfl, show bss [(⟨a0, 1, k0, [5]⟩ : RowB), ⟨some d1, 1, k1, [5]⟩, ⟨some d2, 1, k2, [140]⟩] = [[5], [5], [140]] from rfl, show max 3 3 = 3 from rfl, exDif2] at HDF
  clear hba HCL hdl9
  go_wp2_with fail
  refine HDF.out.mono ?_
  rintro e wb ⟨Ab, nb, cb, rfl, hnb, _, hbb⟩
  obtain rfl : nb = 1 := hnb.symm
  have HBB := Lib.hid (HB3.out.via (HB3a.out.via hbb))
  clear hbb hnb HDF
  go_wp2
  go_ret
  exact ⟨rfl, HBB.out⟩
end Cib
