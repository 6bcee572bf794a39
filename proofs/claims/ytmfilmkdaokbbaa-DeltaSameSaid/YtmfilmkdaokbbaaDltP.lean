/- Off where rows may hold; Holds. -/
import Derived.Test.YtmfilmkdaokbbaaDltO
set_option linter.unusedVariables false
set_option linter.unusedSimpArgs false
set_option maxRecDepth 40000
namespace Cib
open Go Go.RowKit Go.Proofs
theorem bss_take (L : List RowB) (k : Nat) : bss (L.take k) = (bss L).take k := by
  unfold bss
  rw [List.map_take]
theorem Dlt.adds_get (X Y : List (List UInt8)) (n : Nat) {j : Nat} (h : j < n) : (Dlt.adds X Y n).getD j [] = addB (X.getD j []) (Y.getD j []) := by simp [Dlt.adds, List.getD, h]
theorem Cod.pars_getD (k : Nat) (D : List (List UInt8)) (n : Nat) {j : Nat} (h : j < n) : (Cod.pars k D n).getD j [] = Cod.shard k D (k + j) := by simp [Cod.pars, List.getD, h]
set_option maxHeartbeats 1600000 in
theorem dlOff {w : World} {g gf k m c : Nat} {A : Option Addr} (h : Cdr w g gf k m A c) (L : List RowB) (B : Nat) (A2 : Option Addr) (n c2 : Nat) (hr : Rd w B A2 (L.map RowB.v)) (hR : RowsAt w B L) (hB : B ≤ w.heap.size) (hn : L.length = n) (hc : n ≤ c2) (hcm : c2 ≤ maxLen) (hrn : ∀ r ∈ L, r.n ≤ 1000000000) (hnk : n = k + m) (hev : Cod.evn (bss L) = true) :
    Calls Try.prog 17 #[.pointer (some ⟨g, 0, none⟩), .slice A2 n c2] w (AnyI (Dlt.off k (bss L) m) 0 w) := by
  have hl := hR.lens
  have HNK := Lib.hid hnk
  have hk := h.hk
  have hs := h.hs
  have HN := Lib.hid (dlNone h)
  have HN1 := Lib.hid (cdN (h.drewN 2))
  have HN3 := Lib.hid (cdN (h.drewN 3))
  have h0l : 0 < L.length := by omega
  obtain ⟨ad, rfl, hab, hcell0⟩ := hr.row h0l
  rw [addr_add_zero, ← Cod.len0_of' h0l hl] at hcell0
  have hWm : Cod.len0 (bss L) ≤ 1000000000 := by rw [Cod.len0_of' h0l hl]; exact hrn _ (List.getElem_mem h0l)
  have HRW : Hid (∀ r ∈ L, r.n = Cod.len0 (bss L)) := fun r hr' => by
    rw [← hl r hr']
    exact Cod.evn_true.1 hev _ (List.mem_map.2 ⟨r, hr', rfl⟩)
  have hwd : wdB (lns L) (k + m) (Cod.len0 (bss L)) = true := by
    unfold wdB lns
    rw [Bool.and_eq_true, decide_eq_true_eq, List.all_eq_true, List.length_map]
    refine ⟨fun x hx => ?_, hn.trans hnk⟩
    obtain ⟨r, hr', rfl⟩ := List.mem_map.1 hx
    simpa using HRW.out r hr'
  have HWD := Lib.hid (fun q => dlWide L B (some ad) n c2 (k + m) (Cod.len0 (bss L)) (w.drewN q) (hr.drewN q) hn (by unfold maxLen; omega) (by omega) (by unfold maxLen; omega) (fun r hr' => by have := hrn r hr'; unfold maxLen; omega))
  rw [hwd] at HWD
  simp only [Int.natCast_add] at HWD
  have HC4 : Hid (Cdr (w.drewN 4) g gf k m A c) := h.drewN 4
  have HPT := Lib.hid (dlParts HC4.out (some ad) n c2 (by omega) hc hcm)
  have HEVT : Hid (Cod.evn (bss (L.take k)) = true) := by
    show _ = _
    rw [Cod.evn_true]
    intro r hr'
    rw [bss_take] at hr'
    have h1 := Cod.evn_true.1 hev r (List.mem_of_mem_take hr')
    rw [h1, bss_take]
    have h2 : 0 < (bss L).length := by simpa [bss] using h0l
    rw [Cod.len0_eq h2, Cod.len0_eq (by rw [List.length_take]; omega), List.getElem_take]
  have HL0 : Hid (Cod.len0 (bss (L.take k)) = Cod.len0 (bss L)) := by
    show _ = _
    have h2 : 0 < (bss L).length := by simpa [bss] using h0l
    rw [bss_take, Cod.len0_eq h2, Cod.len0_eq (by rw [List.length_take]; omega), List.getElem_take]
  have HSL : Hid (∀ j, j < k + m → ((bss L).getD j []).length = Cod.len0 (bss L)) := fun j hj => by
    have h2 : (bss L).length = k + m := by rw [← hnk]; simpa [bss] using hn
    rw [List.getD_eq_getElem?_getD, List.getElem?_eq_getElem (by omega), Option.getD_some]
    exact Cod.evn_true.1 hev _ (List.getElem_mem _)
  have HR4 : Hid (Rd (w.drewN 4) B (some ad) (L.map RowB.v)) := hr.drewN 4
  have HRR4 : Hid (RowsAt (w.drewN 4) B L) := fun r hr' => (hR r hr').drewN 4
  have HLN := Lib.hid hn
  have HRN := Lib.hid hrn
  have HB0 : Hid (Below w.heap.size w (w.drewN 4)) := below_drewN (Below.refl _ _) 4
  obtain ⟨W, hW⟩ : ∃ W, Hid (Cod.len0 (bss L) = W) := ⟨_, rfl⟩
  rw [hW.out] at hWm HWD hcell0 HRW HL0 HSL
  generalize L[0].A = A0 at hcell0
  generalize L[0].c = c0 at hcell0
  have hc0 : (w.drewN 2).cell? ad = some (.slice A0 W c0) := hcell0
  have hnn : ((n : Int) != (k : Int) + (m : Int)) = false := by simp; omega
  have hn0 : 0 < n := by omega
  clear h hr hR hl hn hrn hev hwd h0l hcell0 hnk
  go_enter Try.func17, Try.ntmps17
  go_wp2_with fail
  refine HN.out.mono ?_
  rintro e w1 ⟨rfl, rfl⟩
  go_wp2
  refine wp_region_held_drew (S := (fun wQq => wQq.cell? ad = some (.slice A0 W c0))) (by kernel_rfl) (hc0) (fun _ => ?_)
  refine wpAnyH_take (i := 0) (v := ?_) rfl (by kernel_rfl) (by kernel_rfl) (by kernel_rfl) (fun _ _ _ h => h) (Or.inl ⟨by rfl, ?_⟩) (hc0) ?_
  rotate_left
  · intro wS hSw
    go_simp
    try with_reducible rfl
  try simp only [List.getElem_toArray, List.getElem_cons_zero, List.getElem_cons_succ, Act.put, List.setIfInBounds_toArray, List.set_cons_zero, List.set_cons_succ]
  refine wpAnyH_take (i := 1) (v := ?_) rfl (by kernel_rfl) (by kernel_rfl) (by kernel_rfl) (fun _ _ _ h => h) (Or.inl ⟨by rfl, ?_⟩) (hc0) ?_
  rotate_left
  · intro wS hSw
    go_simp
    try with_reducible rfl
  try simp only [List.getElem_toArray, List.getElem_cons_zero, List.getElem_cons_succ, Act.put, List.setIfInBounds_toArray, List.set_cons_zero, List.set_cons_succ]
  refine wpAnyH_take (i := 2) (v := ?_) rfl (by kernel_rfl) (by kernel_rfl) (by kernel_rfl) (fun _ _ _ h => h) (Or.inl ⟨by rfl, ?_⟩) (hc0) ?_
  rotate_left
  · intro wS hSw
    go_simp
    try with_reducible rfl
  try simp only [List.getElem_toArray, List.getElem_cons_zero, List.getElem_cons_succ, Act.put, List.setIfInBounds_toArray, List.set_cons_zero, List.set_cons_succ]
  refine wpAnyH_ready (rs := [3]) (by kernel_rfl) (by simp) ?_
  refine AllReadyH.cons rfl (fun K hK => ?_) AllReadyH.nil
  go_simp
  refine HN1.out.mono ?_
  rintro e w2 ⟨rfl, rfl⟩
  refine hK.out _ _ hc0 (fun _ => ?_)
  clear hK K
  try simp only [List.getElem_toArray, List.getElem_cons_zero, List.getElem_cons_succ, Act.put, List.setIfInBounds_toArray, List.set_cons_zero, List.set_cons_succ]
  refine wpAnyH_take (i := 4) (v := ?_) rfl (by kernel_rfl) (by kernel_rfl) (by kernel_rfl) (fun _ _ _ h => h) (Or.inl ⟨by rfl, ?_⟩) hc0 ?_
  rotate_left
  · intro wS hSw
    go_simp
    try with_reducible rfl
  try simp only [List.getElem_toArray, List.getElem_cons_zero, List.getElem_cons_succ, Act.put, List.setIfInBounds_toArray, List.set_cons_zero, List.set_cons_succ]
  refine wpAnyH_take (i := 5) (v := ?_) rfl (by kernel_rfl) (by kernel_rfl) (by kernel_rfl) (fun _ _ _ h => h) (Or.inl ⟨by rfl, ?_⟩) hc0 ?_
  rotate_left
  · intro wS hSw
    go_simp
    try with_reducible rfl
  try simp only [List.getElem_toArray, List.getElem_cons_zero, List.getElem_cons_succ, Act.put, List.setIfInBounds_toArray, List.set_cons_zero, List.set_cons_succ]
  refine wpAnyH_take (i := 6) (v := ?_) rfl (by kernel_rfl) (by kernel_rfl) (by kernel_rfl) (fun _ _ _ h => h) (Or.inl ⟨by rfl, ?_⟩) hc0 ?_
  rotate_left
  · intro wS hSw
    go_simp
    try with_reducible rfl
  try simp only [List.getElem_toArray, List.getElem_cons_zero, List.getElem_cons_succ, Act.put, List.setIfInBounds_toArray, List.set_cons_zero, List.set_cons_succ]
  refine wpAnyH_take (i := 7) (v := ?_) rfl (by kernel_rfl) (by kernel_rfl) (by kernel_rfl) (fun _ _ _ h => h) (Or.inl ⟨by rfl, ?_⟩) hc0 ?_
  rotate_left
  · intro wS hSw
    go_simp
    try with_reducible rfl
  try simp only [List.getElem_toArray, List.getElem_cons_zero, List.getElem_cons_succ, Act.put, List.setIfInBounds_toArray, List.set_cons_zero, List.set_cons_succ]
  refine wpAnyH_take (i := 9) (v := ?_) rfl (by kernel_rfl) (by kernel_rfl) (by kernel_rfl) (fun _ _ _ h => h) (Or.inl ⟨by rfl, ?_⟩) hc0 ?_
  rotate_left
  · intro wS hSw
    go_simp
    try with_reducible rfl
  try simp only [List.getElem_toArray, List.getElem_cons_zero, List.getElem_cons_succ, Act.put, List.setIfInBounds_toArray, List.set_cons_zero, List.set_cons_succ]
  refine wpAnyH_take (i := 10) (v := ?_) rfl (by kernel_rfl) (by kernel_rfl) (by kernel_rfl) (fun _ _ _ h => h) (Or.inl ⟨by rfl, ?_⟩) hc0 ?_
  rotate_left
  · intro wS hSw
    go_simp
    try with_reducible rfl
  try simp only [List.getElem_toArray, List.getElem_cons_zero, List.getElem_cons_succ, Act.put, List.setIfInBounds_toArray, List.set_cons_zero, List.set_cons_succ]
  refine wpAnyH_take (i := 11) (v := ?_) rfl (by kernel_rfl) (by kernel_rfl) (by kernel_rfl) (fun _ _ _ h => h) (Or.inl ⟨by rfl, ?_⟩) hc0 ?_
  rotate_left
  · intro wS hSw
    have hcv := hSw
    go_simp
    try with_reducible rfl
  try simp only [List.getElem_toArray, List.getElem_cons_zero, List.getElem_cons_succ, Act.put, List.setIfInBounds_toArray, List.set_cons_zero, List.set_cons_succ]
  refine wpAnyH_take (i := 12) (v := ?_) rfl (by kernel_rfl) (by kernel_rfl) (by kernel_rfl) (fun _ _ _ h => h) (Or.inl ⟨by rfl, ?_⟩) hc0 ?_
  rotate_left
  · intro wS hSw
    go_simp
    try with_reducible rfl
  try simp only [List.getElem_toArray, List.getElem_cons_zero, List.getElem_cons_succ, Act.put, List.setIfInBounds_toArray, List.set_cons_zero, List.set_cons_succ]
  refine wpAnyH_ready (rs := [8]) (by kernel_rfl) (by simp) ?_
  refine AllReadyH.cons rfl (fun K hK => ?_) AllReadyH.nil
  go_simp
  refine HN3.out.mono ?_
  rintro e w2 ⟨rfl, rfl⟩
  refine hK.out _ _ hc0 (fun _ => ?_)
  clear hK K
  try simp only [List.getElem_toArray, List.getElem_cons_zero, List.getElem_cons_succ, Act.put, List.setIfInBounds_toArray, List.set_cons_zero, List.set_cons_succ]
  refine wpAnyH_ready (rs := [13]) (by kernel_rfl) (by simp) ?_
  refine AllReadyH.cons rfl (fun K hK => ?_) AllReadyH.nil
  go_simp
  refine (HWD.out 4).mono ?_
  rintro e w2 ⟨rfl, rfl⟩
  refine hK.out _ _ hc0 (fun _ => ?_)
  clear hK K
  try simp only [List.getElem_toArray, List.getElem_cons_zero, List.getElem_cons_succ, Act.put, List.setIfInBounds_toArray, List.set_cons_zero, List.set_cons_succ]
  refine wpAnyH_take (i := 14) (v := ?_) rfl (by kernel_rfl) (by kernel_rfl) (by kernel_rfl) (fun _ _ _ h => h) (Or.inl ⟨by rfl, ?_⟩) hc0 ?_
  rotate_left
  · intro wS hSw
    go_simp
    try with_reducible rfl
  try simp only [List.getElem_toArray, List.getElem_cons_zero, List.getElem_cons_succ, Act.put, List.setIfInBounds_toArray, List.set_cons_zero, List.set_cons_succ]
  refine wpAnyH_take (i := 15) (v := ?_) rfl (by kernel_rfl) (by kernel_rfl) (by kernel_rfl) (fun _ _ _ h => h) (Or.inl ⟨by rfl, ?_⟩) hc0 ?_
  rotate_left
  · intro wS hSw
    go_simp
    try with_reducible rfl
  try simp only [List.getElem_toArray, List.getElem_cons_zero, List.getElem_cons_succ, Act.put, List.setIfInBounds_toArray, List.set_cons_zero, List.set_cons_succ]
  refine wpAnyH_take (i := 16) (v := ?_) rfl (by kernel_rfl) (by kernel_rfl) (by kernel_rfl) (fun _ _ _ h => h) (Or.inl ⟨by rfl, ?_⟩) hc0 ?_
  rotate_left
  · intro wS hSw
    go_simp
    try with_reducible rfl
  try simp only [List.getElem_toArray, List.getElem_cons_zero, List.getElem_cons_succ, Act.put, List.setIfInBounds_toArray, List.set_cons_zero, List.set_cons_succ]
  refine wpAnyH_done (by kernel_rfl) ?_ _
  clear HN HN1 HN3 HWD hc0
  go_wp2_with fail
  refine HPT.out.mono ?_
  rintro e w3 ⟨rfl, hb3⟩
  have HB3 := Lib.hid (HB0.out.via hb3)
  have HC3 := Lib.hid (HC4.out.below hb3)
  have HR3 := Lib.hid (HR4.out.below (hb3.mono hB))
  have HRR3 : Hid (RowsAt w3 B L) := fun r hr' => (HRR4.out r hr').below (hb3.mono hB)
  rw [show n - k = m from by have := HNK.out; omega]
  clear HPT HR4 HRR4 HC4 hb3 HB0
  go_wp2_with fail
  refine (cdEncode HC3.out (L.take k) B (some ad) k (by rw [List.map_take]; exact HR3.out.take k) (fun r hr' => HRR3.out r (List.mem_of_mem_take hr')) (Nat.le_trans hB HB3.out.size) (by rw [List.length_take, HLN.out, HNK.out]; omega) HEVT.out (fun r hr' => HRN.out r (List.mem_of_mem_take hr'))).mono ?_
  rintro e w5 ⟨A5, n5, c5, L5, rfl, hL5, hn5, ho5, hR5, hb5⟩
  obtain rfl : n5 = m := by
    have := congrArg List.length hL5
    rw [List.length_map, Cod.pars_length] at this
    omega
  have HB5 := Lib.hid (HB3.out.via hb5)
  have HC5 := Lib.hid (HC3.out.below hb5)
  have HL5 : Hid (bss L5 = Cod.pars k (bss (L.take k)) n5) := hL5
  have HW5 : Hid (∀ r ∈ L5, r.n = W) := fun r hr' => by
    rw [← (hR5.at r hr').len]
    have : r.bs ∈ bss L5 := List.mem_map.2 ⟨r, hr', rfl⟩
    rw [HL5.out] at this
    simp only [Cod.pars, List.mem_map] at this
    obtain ⟨i, _, he⟩ := this
    rw [← he, Cod.shard_length, HL0.out]
  have HEA := Lib.hid (dlEach (L.drop k) L5 w5.heap.size (cut (some ad) c2 k) A5 n5 (c2 - k) n5 c5 W w5
    (by rw [List.map_drop]; exact (((HR3.out.below (hb5.mono (Nat.le_trans hB HB3.out.size))).more (Nat.le_trans hB HB5.out.size)).cut (by rw [List.length_map, HLN.out, HNK.out]; omega) (by rw [List.length_map, HLN.out]; exact hc)))
    (fun r hr' => ((HRR3.out r (List.mem_of_mem_drop hr')).below (hb5.mono (Nat.le_trans hB HB3.out.size))).more (Nat.le_trans hB HB5.out.size)) (Rd.of_own ho5) hR5.at (Nat.le_refl _) (by rw [List.length_drop, HLN.out, HNK.out]; omega) hn5 (Nat.le_refl _) (by omega) (fun r hr' => HRW.out r (List.mem_of_mem_drop hr')) HW5.out hWm)
  have HEQ : Hid (∀ p, p < n5 → (Dlt.adds (bss (L.drop k)) (bss L5) n5).getD p [] = addB ((bss L).getD (k + p) []) (Cod.shard k ((bss L).take k) (k + p))) := fun p hp => by
    rw [Dlt.adds_get _ _ _ hp, HL5.out, Cod.pars_getD _ _ _ hp, bss_drop, bss_take]
    congr 1
    simp [List.getD]
  clear HL5 HW5 hL5 hn5 ho5 hR5 hb5 HR3 HRR3 HC3 HB3
  go_wp2_with fail
  refine HEA.out.mono ?_
  rintro e w6 ⟨A6, n6, c6, E, rfl, hE, hn6, ho6, hR6, hb6⟩
  obtain rfl : n6 = n5 := by
    have := congrArg List.length hE
    rw [bss, List.length_map, Dlt.adds_length] at this
    omega
  have HB6 := Lib.hid (HB5.out.via hb6)
  have HKK := Lib.hid (fun (V : World) (hb : Below w6.heap.size w6 V) => cdK ((HC5.out.below hb6).below hb))
  have HRE := Lib.hid (Rd.of_own ho6)
  have HAE := Lib.hid hR6.at
  have HNE := Lib.hid hn6
  have HE : Hid (∀ p (h : p < E.length), E[p].bs = addB ((bss L).getD (k + p) []) (Cod.shard k ((bss L).take k) (k + p))) := fun p hp => by
    have h1 := HEQ.out p (by omega)
    rw [← hE, bss_get hp] at h1
    exact h1
  obtain ⟨i0, hi, hz0, hz1, hz2⟩ := info_parts infoInt
  have HI0 := Lib.hid hi
  have HZ0 := Lib.hid hz0
  have HZ1 := Lib.hid hz1
  have HZ2 := Lib.hid hz2
  clear hE hn6 ho6 hR6 hb6 HEA HEQ HC5 HB5 hi hz0 hz1 hz2
  go_wp2
  go_loopw [10, 11, 12, 52] (fun l _ _ i wr => ∃ (p q : Nat) (A' : Option Addr) (c' : Nat), i = .int .i64 p ∧ p ≤ n6 ∧ l = .slice A' q c' ∧ q ≤ p ∧ Hid ((Dlt.off k (bss L) p).length = q) ∧ Hid (wr.ownsRow w6.heap.size 3 1 (.slice A' q c') q ((Dlt.off k (bss L) p).map iv)) ∧ Hid (Below w6.heap.size w6 wr)) (fun _ _ _ i _ => n6 - (intOf i).toNat)
  case atStart => exact ⟨0, 0, none, 0, rfl, Nat.zero_le _, rfl, Nat.le_refl _, rfl, World.ownsRow_nil _ _ _ _, Below.refl _ _⟩
  case round =>
    obtain ⟨p, q, A', c', rfl, hp, rfl, hqp, HQ, HO, HB7⟩ := hrel
    have hz := HB7.out.size
    by_cases hlt : p < n6
    · have hpl : p < E.length := by rw [HNE.out]; exact hlt
      obtain ⟨ad', rfl, _, hcell⟩ := (HRE.out.below HB7.out).row hpl
      have hq' := (HAE.out.get hpl).below HB7.out
      have hxe := HE.out p hpl
      have hle : ((bss L).getD (k + p) []).length = (Cod.shard k ((bss L).take k) (k + p)).length := by
        rw [HSL.out _ (by omega), Cod.shard_length, ← bss_take, HL0.out]
      have hcl := addB_zero hle
      rw [← hxe] at hcl
      have HCLN := Lib.hid (dlClean E[p].A E[p].n E[p].c E[p].bs w6.heap.size wr hq'.rd hq'.len (Nat.le_trans hq'.cap hq'.max))
      generalize E[p] = r at *
      obtain ⟨rA, rn, rc, x⟩ := r
      simp only at hcell HCLN hcl
      by_cases heq : (bss L).getD (k + p) [] = Cod.shard k ((bss L).take k) (k + p)
      · rw [hcl.2 heq] at HCLN
        have HOF : Hid (Dlt.off k (bss L) (p + 1) = Dlt.off k (bss L) p) := (show _ = _ by rw [Dlt.off, if_pos heq])
        rw [← HOF.out] at HQ HO
        clear hq' hxe hle hcl heq
        go_wp2_with fail
        refine HCLN.out.mono ?_
        rintro e w7 ⟨rfl, rfl⟩
        go_wp2
        go_roundw
        case rel => exact ⟨p + 1, q, A', c', by go_num, hlt, rfl, by omega, HQ, HO, HB7⟩
        case measure => simp [intOf]; omega
      · have hfa : x.all (· == 0) = false := by
          cases hb : x.all (· == 0) with
          | false => rfl
          | true => exact absurd (hcl.1 hb) heq
        rw [hfa] at HCLN
        have HOF : Hid (Dlt.off k (bss L) (p + 1) = Dlt.off k (bss L) p ++ [k + p]) := (show _ = _ by rw [Dlt.off, if_neg heq])
        have HK7 := Lib.hid (HKK.out wr HB7.out)
        have hkp : (k : Int) + (p : Int) = ((k + p : Nat) : Int) := by omega
        have hkp2 : IntKind.i64.wrap ((k : Int) + (p : Int)) = ((k : Int) + (p : Int)) := by rw [IntKind.wrap_i64]; omega
        clear hq' hxe hle hcl heq hfa hkp
        go_wp2_with fail
        refine HCLN.out.mono ?_
        rintro e w7 ⟨rfl, rfl⟩
        go_wp2_with fail
        refine HK7.out.mono ?_
        rintro e w7 ⟨rfl, rfl⟩
        go_wp2_with (at_builtin; refine wpList_app _ rfl (.tmp 60) (.tmp 65) _ rfl w6.heap.size 3 i0 _ 8 Try.underlying41 HI0.out HZ0.out HZ1.out HZ2.out rfl A' q c' ((Dlt.off k (bss L) p).map iv) rfl (HO.out.alloc _) _ (some ⟨w7.heap.size, 0, none⟩) 1 1 [iv (k + p)] rfl rfl (Rd.new w7 _ _ _ (by simp [iv])) (iv_one (l := [k + p])) (by unfold maxLen; omega) (by omega) (by simp; omega) ?_; intro A1 c1' w8 ho1 hg1 hb1)
        go_roundw
        case rel => exact ⟨p + 1, q + 1, A1, c1', by go_num, hlt, rfl, by omega, (show _ = _ by rw [HOF.out, List.length_append, HQ.out]; rfl), (show World.ownsRow _ _ _ _ _ _ _ by rw [HOF.out, List.map_append]; exact ho1), (HB7.out.alloc hz _).trans hb1⟩
        case measure => simp [intOf]; omega
    · obtain rfl : p = n6 := by omega
      have HR7 := Lib.hid (Rd.of_own HO.out)
      have HB8 := Lib.hid (HB6.out.via HB7.out)
      go_wp2
      first | go_ret2 | go_ret
      exact ⟨A', q, c', rfl, HQ.out, by omega, HR7.out, HB8.out⟩
theorem dlHolds {w : World} (g : Value) (v : Value) (l : List Nat) (err : Int) (x : Bool) (hx : x = (decide (err = 0) && decide (l = []))) (H : Calls Try.prog 17 #[g, v] w (AnyI l err w)) :
    Calls Try.prog 20 #[g, v] w fun e w' => e = .returned (.bool x) ∧ Below w.heap.size w w' := by
  have HH := Lib.hid H
  clear H
  go_enter Try.func20, Try.ntmps20
  go_wp2_with fail
  refine HH.out.mono ?_
  rintro e w1 ⟨A, n, c, rfl, hn, hn1, hr, hb⟩
  have HB := Lib.hid hb
  by_cases he : err = 0
  · subst he
    by_cases hl : l = []
    · subst hl
      obtain rfl : n = 0 := by rw [← hn]; rfl
      obtain rfl : x = true := by rw [hx]; rfl
      clear hb hr hn hx
      go_wp2
      go_ret
      exact ⟨rfl, HB.out⟩
    · have hn0 : n ≠ 0 := fun h => hl (List.eq_nil_of_length_eq_zero (by omega))
      obtain rfl : x = false := by rw [hx]; simp [hl]
      have hnn : ((n : Int) == 0) = false := by simp; omega
      clear hb hr hn hx hl
      go_wp2
      go_ret
      exact ⟨rfl, HB.out⟩
  · obtain rfl : x = false := by rw [hx]; simp [he]
    have hee : (err == 0) = false := by simp; omega
    clear hb hr hn hx he
    go_wp2
    go_ret
    exact ⟨rfl, HB.out⟩
end Cib
