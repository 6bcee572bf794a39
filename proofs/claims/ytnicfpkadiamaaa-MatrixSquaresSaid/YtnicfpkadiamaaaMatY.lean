/- A matrix at work in memory: clean. -/
import Derived.Test.YtnicfpkadiamaaaMatX
set_option linter.unusedVariables false
set_option linter.unusedSimpArgs false
set_option maxRecDepth 40000
namespace Cib
open Go Go.RowKit Go.Proofs
theorem divA_one {x : UInt8} (h : x ≠ 0) : divA 1 x.toNat = (Fld.gdiv 1 x.toNat, 0) := by
  unfold divA
  rw [if_neg (Lin.ne8 h)]
theorem getD_0 {l : List UInt8} {i : Nat} (h : i < l.length) : l.getD i 0 = l[i] := by
  rw [List.getD_eq_getElem?_getD, List.getElem?_eq_getElem h]
  rfl
theorem WkF.below {g gw gr n c j : Nat} {r : RowB} {w w' : World} (h : WkF g gw gr n c j r w) (hb : Below w.heap.size w w') : WkF g gw gr n c j r w' :=
  ⟨(hb.cell (block_lt_of_cell h.b0)).trans h.b0, (hb.cell (block_lt_of_cell h.b1)).trans h.b1, (hb.cell (block_lt_of_cell h.row)).trans h.row⟩
theorem clean_row {L Lk : List RowB} {at_ col k : Nat} (h : bsL Lk = Lin.cleanL (bsL L) at_ col k) (hk : k < Lk.length) (hka : k ≠ at_) : Lk[k].bs = (bsL L).getD k [] := by
  have hl : Lk.length = L.length := by
    have := congrArg List.length h
    rw [Lin.cleanL_length, bsL_length, bsL_length] at this
    exact this
  rw [← bsL_get hk, h, Lin.getD_at (by rw [Lin.cleanL_length, bsL_length]; omega), Lin.cleanL_get (by rw [bsL_length]; omega), if_neg hka, if_neg (Nat.lt_irrefl k), Lin.getD_at (by rw [bsL_length]; omega)]
theorem clean_head {L Lk : List RowB} {at_ col k : Nat} (h : bsL Lk = Lin.cleanL (bsL L) at_ col k) (ha : at_ < Lk.length) : Lk[at_].bs = Lin.headRow (bsL L) at_ col := by
  have hl : Lk.length = L.length := by
    have := congrArg List.length h
    rw [Lin.cleanL_length, bsL_length, bsL_length] at this
    exact this
  rw [← bsL_get ha, h, Lin.getD_at (by rw [Lin.cleanL_length, bsL_length]; omega), Lin.cleanL_get (by rw [bsL_length]; omega), if_pos rfl]
set_option maxHeartbeats 4000000 in
theorem matClean {w0 wr : World} {g gw gr n W c : Nat} {L : List RowB} (h : WkI w0 g gw gr n W c L wr) (at_ col : Nat) (ha : at_ < n) (hc : col < W) (hn : n ≤ 65536) (hW : W ≤ 65536) (hne : Lin.ent (bsL L) at_ col ≠ 0) :
    Calls Try.prog 48 #[.pointer (some ⟨gw, 0, none⟩), .int .i64 (at_ : Int), .int .i64 (col : Int)] wr fun e w' => e = .returned (.tuple #[]) ∧ ∃ L', WkI w0 g gw gr n W c L' w' ∧ bsL L' = Lin.cleanL (bsL L) at_ col n ∧ Same [22] wr w' := by
  obtain ⟨w9, hw9⟩ : ∃ w, w = wr := ⟨_, rfl⟩
  rw [← hw9]
  rw [← hw9] at h
  clear hw9
  have HK := Lib.hid h
  have hLn := h.dat.len
  have haL : at_ < L.length := by rw [hLn]; exact ha
  have hF := h.wkf haL rfl
  have hrow := h.at haL
  have hwd := h.wid _ (List.getElem_mem haL)
  have hent := bsL_ent haL col
  have hbs := bsL_get haL
  generalize hr0 : L[at_] = r at *
  obtain ⟨RA, rn, rc, rb⟩ := r
  simp only at hwd hent hbs
  subst hwd
  have hrl : rb.length = rn := hrow.len
  obtain ⟨rad, hra, _, hbyte⟩ := hrow.rd.byte (k := col) (by rw [hrl]; exact hc)
  simp only at hra
  subst hra
  rw [getD_0 (by rw [hrl]; exact hc)] at hent
  generalize rb[col]'(by rw [hrl]; exact hc) = x at *
  rw [hent] at hne
  have HD := Lib.hid fun w1 (h1 : Full w1 g) => fldDivF g 1 x.toNat (by decide) x.toNat_lt w1 h1
  rw [divA_one hne] at HD
  unfold pairV at HD
  simp only at HD
  have HHR : Hid (Lin.headRow (bsL L) at_ col = scB (Fld.gdiv 1 x.toNat) rb) := Lib.hid (by unfold Lin.headRow; rw [hent, hbs])
  have hdl := Fld.gdiv_lt 1 x.toNat
  generalize Fld.gdiv 1 x.toNat = d at *
  have HF := Lib.hid hF
  have HRO := Lib.hid hrow
  have HRL := Lib.hid hrl
  have HLN := Lib.hid hLn
  have HHL := Lib.hid haL
  have HDL := Lib.hid hdl
  have hbl := block_lt_of_cell hbyte
  have hfl0 := block_lt_of_cell hF.b0
  have hfl1 := block_lt_of_cell hF.b1
  have hflr := block_lt_of_cell hF.row
  clear h hLn haL hF hrow hent hbs hrl hne hdl hr0
  go_enter Try.func48, Try.ntmps48
  go_wp2
  refine wp_region_held_drew (S := (fun wQq => Below (World.heap (w9.drew)).size (w9.drew) wQq)) (by kernel_rfl) (by exact Below.refl _ _) (fun _ => ?_)
  refine wpAnyH_take (i := 0) (v := ?_) rfl (by kernel_rfl) (by kernel_rfl) (by kernel_rfl) (fun _ _ _ h => h) (Or.inl ⟨by rfl, ?_⟩) (Below.refl _ _) ?_
  rotate_left
  · intro wS hSw
    go_simp
    try with_reducible rfl
  try simp only [List.getElem_toArray, List.getElem_cons_zero, List.getElem_cons_succ, Act.put, List.setIfInBounds_toArray, List.set_cons_zero, List.set_cons_succ]
  refine wpAnyH_take (i := 1) (v := ?_) rfl (by kernel_rfl) (by kernel_rfl) (by kernel_rfl) (fun _ _ _ h => h) (Or.inl ⟨by rfl, ?_⟩) (Below.refl _ _) ?_
  rotate_left
  · intro wS hSw
    go_simp
    try with_reducible rfl
  try simp only [List.getElem_toArray, List.getElem_cons_zero, List.getElem_cons_succ, Act.put, List.setIfInBounds_toArray, List.set_cons_zero, List.set_cons_succ]
  refine wpAnyH_take (i := 2) (v := ?_) rfl (by kernel_rfl) (by kernel_rfl) (by kernel_rfl) (fun _ _ _ h => h) (Or.inl ⟨by rfl, ?_⟩) (Below.refl _ _) ?_
  rotate_left
  · intro wS hSw
    go_simp
    try with_reducible rfl
  try simp only [List.getElem_toArray, List.getElem_cons_zero, List.getElem_cons_succ, Act.put, List.setIfInBounds_toArray, List.set_cons_zero, List.set_cons_succ]
  refine wpAnyH_take (i := 4) (v := ?_) rfl (by kernel_rfl) (by kernel_rfl) (by kernel_rfl) (fun _ _ _ h => h) (Or.inl ⟨by rfl, ?_⟩) (Below.refl _ _) ?_
  rotate_left
  · intro wS hSw
    go_simp
    try with_reducible rfl
  try simp only [List.getElem_toArray, List.getElem_cons_zero, List.getElem_cons_succ, Act.put, List.setIfInBounds_toArray, List.set_cons_zero, List.set_cons_succ]
  refine wpAnyH_take (i := 5) (v := ?_) rfl (by kernel_rfl) (by kernel_rfl) (by kernel_rfl) (fun _ _ _ h => h) (Or.inl ⟨by rfl, ?_⟩) (Below.refl _ _) ?_
  rotate_left
  · intro wS hSw
    go_simp
    try with_reducible rfl
  try simp only [List.getElem_toArray, List.getElem_cons_zero, List.getElem_cons_succ, Act.put, List.setIfInBounds_toArray, List.set_cons_zero, List.set_cons_succ]
  refine wpAnyH_take (i := 6) (v := ?_) rfl (by kernel_rfl) (by kernel_rfl) (by kernel_rfl) (fun _ _ _ h => h) (Or.inl ⟨by rfl, ?_⟩) (Below.refl _ _) ?_
  rotate_left
  · intro wS hSw
    go_simp
    try with_reducible rfl
  try simp only [List.getElem_toArray, List.getElem_cons_zero, List.getElem_cons_succ, Act.put, List.setIfInBounds_toArray, List.set_cons_zero, List.set_cons_succ]
  refine wpAnyH_take (i := 8) (v := ?_) rfl (by kernel_rfl) (by kernel_rfl) (by kernel_rfl) (fun _ _ _ h => h) (Or.inl ⟨by rfl, ?_⟩) (Below.refl _ _) ?_
  rotate_left
  · intro wS hSw
    go_simp
    try with_reducible rfl
  try simp only [List.getElem_toArray, List.getElem_cons_zero, List.getElem_cons_succ, Act.put, List.setIfInBounds_toArray, List.set_cons_zero, List.set_cons_succ]
  refine wpAnyH_take (i := 11) (v := ?_) rfl (by kernel_rfl) (by kernel_rfl) (by kernel_rfl) (fun _ _ _ h => h) (Or.inl ⟨by rfl, ?_⟩) (Below.refl _ _) ?_
  rotate_left
  · intro wS hSw
    go_simp
    try with_reducible rfl
  try simp only [List.getElem_toArray, List.getElem_cons_zero, List.getElem_cons_succ, Act.put, List.setIfInBounds_toArray, List.set_cons_zero, List.set_cons_succ]
  refine wpAnyH_take (i := 3) (v := ?_) rfl (by kernel_rfl) (by kernel_rfl) (by kernel_rfl) (fun _ _ _ h => h) (Or.inl ⟨by rfl, ?_⟩) (Below.refl _ _) ?_
  rotate_left
  · intro wS hSw
    have hcv := ((hSw.cell (p := ⟨gw, 0, none⟩) (by exact hfl0)).trans HF.out.b0)
    go_simp
    try with_reducible rfl
  try simp only [List.getElem_toArray, List.getElem_cons_zero, List.getElem_cons_succ, Act.put, List.setIfInBounds_toArray, List.set_cons_zero, List.set_cons_succ]
  refine wpAnyH_take (i := 7) (v := ?_) rfl (by kernel_rfl) (by kernel_rfl) (by kernel_rfl) (fun _ _ _ h => h) (Or.inl ⟨by rfl, ?_⟩) (Below.refl _ _) ?_
  rotate_left
  · intro wS hSw
    have hcv := ((hSw.cell (p := ⟨gw, 1, none⟩) (by exact hfl1)).trans HF.out.b1)
    go_simp
    try with_reducible rfl
  try simp only [List.getElem_toArray, List.getElem_cons_zero, List.getElem_cons_succ, Act.put, List.setIfInBounds_toArray, List.set_cons_zero, List.set_cons_succ]
  refine wpAnyH_take (i := 9) (v := ?_) rfl (by kernel_rfl) (by kernel_rfl) (by kernel_rfl) (fun _ _ _ h => h) (Or.inl ⟨by rfl, ?_⟩) (Below.refl _ _) ?_
  rotate_left
  · intro wS hSw
    go_simp
    try with_reducible rfl
  try simp only [List.getElem_toArray, List.getElem_cons_zero, List.getElem_cons_succ, Act.put, List.setIfInBounds_toArray, List.set_cons_zero, List.set_cons_succ]
  refine wpAnyH_take (i := 10) (v := ?_) rfl (by kernel_rfl) (by kernel_rfl) (by kernel_rfl) (fun _ _ _ h => h) (Or.inl ⟨by rfl, ?_⟩) (Below.refl _ _) ?_
  rotate_left
  · intro wS hSw
    have hcv := ((hSw.cell (p := ⟨gr, at_, none⟩) (by exact hflr)).trans HF.out.row)
    go_simp
    try with_reducible rfl
  try simp only [List.getElem_toArray, List.getElem_cons_zero, List.getElem_cons_succ, Act.put, List.setIfInBounds_toArray, List.set_cons_zero, List.set_cons_succ]
  refine wpAnyH_take (i := 12) (v := ?_) rfl (by kernel_rfl) (by kernel_rfl) (by kernel_rfl) (fun _ _ _ h => h) (Or.inl ⟨by rfl, ?_⟩) (Below.refl _ _) ?_
  rotate_left
  · intro wS hSw
    go_simp
    try with_reducible rfl
  try simp only [List.getElem_toArray, List.getElem_cons_zero, List.getElem_cons_succ, Act.put, List.setIfInBounds_toArray, List.set_cons_zero, List.set_cons_succ]
  refine wpAnyH_take (i := 13) (v := ?_) rfl (by kernel_rfl) (by kernel_rfl) (by kernel_rfl) (fun _ _ _ h => h) (Or.inl ⟨by rfl, ?_⟩) (Below.refl _ _) ?_
  rotate_left
  · intro wS hSw
    have hcv := ((hSw.cell (p := rad.add col) (by exact hbl)).trans hbyte)
    go_simp
    try with_reducible rfl
  try simp only [List.getElem_toArray, List.getElem_cons_zero, List.getElem_cons_succ, Act.put, List.setIfInBounds_toArray, List.set_cons_zero, List.set_cons_succ]
  refine wpAnyH_ready (rs := [14]) (by kernel_rfl) (by simp) ?_
  refine AllReadyH.cons rfl (fun K hK => ?_) AllReadyH.nil
  go_simp
  refine (HD.out _ (HK.out.full.drewN 1)).mono ?_
  rintro e w2 ⟨rfl, hb2⟩
  refine hK.out _ _ hb2 (fun _ => ?_)
  clear hK K
  try simp only [List.getElem_toArray, List.getElem_cons_zero, List.getElem_cons_succ, Act.put, List.setIfInBounds_toArray, List.set_cons_zero, List.set_cons_succ]
  refine wpAnyH_take (i := 15) (v := ?_) rfl (by kernel_rfl) (by kernel_rfl) (by kernel_rfl) (fun _ _ _ h => h) (Or.inl ⟨by rfl, ?_⟩) hb2 ?_
  rotate_left
  · intro wS hSw
    go_simp
    try with_reducible rfl
  try simp only [List.getElem_toArray, List.getElem_cons_zero, List.getElem_cons_succ, Act.put, List.setIfInBounds_toArray, List.set_cons_zero, List.set_cons_succ]
  refine wpAnyH_take (i := 16) (v := ?_) rfl (by kernel_rfl) (by kernel_rfl) (by kernel_rfl) (fun _ _ _ h => h) (Or.inl ⟨by rfl, ?_⟩) hb2 ?_
  rotate_left
  · intro wS hSw
    go_simp
    try with_reducible rfl
  try simp only [List.getElem_toArray, List.getElem_cons_zero, List.getElem_cons_succ, Act.put, List.setIfInBounds_toArray, List.set_cons_zero, List.set_cons_succ]
  refine wpAnyH_take (i := 17) (v := ?_) rfl (by kernel_rfl) (by kernel_rfl) (by kernel_rfl) (fun _ _ _ h => h) (Or.inl ⟨by rfl, ?_⟩) hb2 ?_
  rotate_left
  · intro wS hSw
    go_simp
    try with_reducible rfl
  try simp only [List.getElem_toArray, List.getElem_cons_zero, List.getElem_cons_succ, Act.put, List.setIfInBounds_toArray, List.set_cons_zero, List.set_cons_succ]
  refine wpAnyH_take (i := 18) (v := ?_) rfl (by kernel_rfl) (by kernel_rfl) (by kernel_rfl) (fun _ _ _ h => h) (Or.inl ⟨by rfl, ?_⟩) hb2 ?_
  rotate_left
  · intro wS hSw
    go_simp
    try with_reducible rfl
  try simp only [List.getElem_toArray, List.getElem_cons_zero, List.getElem_cons_succ, Act.put, List.setIfInBounds_toArray, List.set_cons_zero, List.set_cons_succ]
  refine wpAnyH_take (i := 19) (v := ?_) rfl (by kernel_rfl) (by kernel_rfl) (by kernel_rfl) (fun _ _ _ h => h) (Or.inl ⟨by rfl, ?_⟩) hb2 ?_
  rotate_left
  · intro wS hSw
    go_simp
    try with_reducible rfl
  try simp only [List.getElem_toArray, List.getElem_cons_zero, List.getElem_cons_succ, Act.put, List.setIfInBounds_toArray, List.set_cons_zero, List.set_cons_succ]
  refine wpAnyH_done (by kernel_rfl) ?_ _
  have hb2' : Below w9.heap.size w9 w2 := (below_drewN (Below.refl _ _) 1).trans hb2
  have HK2 := Lib.hid (HK.out.via hb2')
  have HS2 : Hid (Same [22] w9 w2) := Lib.hid (Same.below hb2')
  have HF2 := Lib.hid (HF.out.below hb2')
  have HSC := Lib.hid fun w1 (hw : Below w2.heap.size w2 w1) => fldScaleF g d HDL.out _ rc rb w1 (HK2.out.full.on hw) w9.heap.size ((HRO.out.rd.below hb2').below (hw.mono hb2'.size)) HRL.out (Nat.le_trans hb2'.size hw.size) (by omega)
  clear hb2 hb2' HF HK HD hbyte hbl
  have hP0 : w2.drew.cell? ⟨gw, 0, none⟩ = some (.pointer (some ⟨g, 0, none⟩)) ∧ w2.drew.cell? ⟨gw, 1, none⟩ = some (.slice (some ⟨gr, 0, none⟩) n c) := ⟨HF2.out.b0, HF2.out.b1⟩
  have hrow2 : w2.drew.cell? ⟨gr, at_, none⟩ = some (.slice (some rad) rn rc) := HF2.out.row
  have HP0 := Lib.hid hP0
  clear hP0
  go_wp2
  refine wp_region_held_drew (S := (fun wQq => wQq.cell? ⟨gw, 0, none⟩ = some (.pointer (some ⟨g, 0, none⟩)) ∧ wQq.cell? ⟨gw, 1, none⟩ = some (.slice (some ⟨gr, 0, none⟩) n c))) (by kernel_rfl) (HP0.out) (fun _ => ?_)
  refine wpAnyH_take (i := 0) (v := ?_) rfl (by kernel_rfl) (by kernel_rfl) (by kernel_rfl) (fun _ _ _ h => h) (Or.inl ⟨by rfl, ?_⟩) (HP0.out) ?_
  rotate_left
  · intro wS hSw
    go_simp
    try with_reducible rfl
  try simp only [List.getElem_toArray, List.getElem_cons_zero, List.getElem_cons_succ, Act.put, List.setIfInBounds_toArray, List.set_cons_zero, List.set_cons_succ]
  refine wpAnyH_take (i := 1) (v := ?_) rfl (by kernel_rfl) (by kernel_rfl) (by kernel_rfl) (fun _ _ _ h => h) (Or.inl ⟨by rfl, ?_⟩) (HP0.out) ?_
  rotate_left
  · intro wS hSw
    go_simp
    try with_reducible rfl
  try simp only [List.getElem_toArray, List.getElem_cons_zero, List.getElem_cons_succ, Act.put, List.setIfInBounds_toArray, List.set_cons_zero, List.set_cons_succ]
  refine wpAnyH_take (i := 2) (v := ?_) rfl (by kernel_rfl) (by kernel_rfl) (by kernel_rfl) (fun _ _ _ h => h) (Or.inl ⟨by rfl, ?_⟩) (HP0.out) ?_
  rotate_left
  · intro wS hSw
    go_simp
    try with_reducible rfl
  try simp only [List.getElem_toArray, List.getElem_cons_zero, List.getElem_cons_succ, Act.put, List.setIfInBounds_toArray, List.set_cons_zero, List.set_cons_succ]
  refine wpAnyH_take (i := 4) (v := ?_) rfl (by kernel_rfl) (by kernel_rfl) (by kernel_rfl) (fun _ _ _ h => h) (Or.inl ⟨by rfl, ?_⟩) (HP0.out) ?_
  rotate_left
  · intro wS hSw
    go_simp
    try with_reducible rfl
  try simp only [List.getElem_toArray, List.getElem_cons_zero, List.getElem_cons_succ, Act.put, List.setIfInBounds_toArray, List.set_cons_zero, List.set_cons_succ]
  refine wpAnyH_take (i := 5) (v := ?_) rfl (by kernel_rfl) (by kernel_rfl) (by kernel_rfl) (fun _ _ _ h => h) (Or.inl ⟨by rfl, ?_⟩) (HP0.out) ?_
  rotate_left
  · intro wS hSw
    go_simp
    try with_reducible rfl
  try simp only [List.getElem_toArray, List.getElem_cons_zero, List.getElem_cons_succ, Act.put, List.setIfInBounds_toArray, List.set_cons_zero, List.set_cons_succ]
  refine wpAnyH_take (i := 6) (v := ?_) rfl (by kernel_rfl) (by kernel_rfl) (by kernel_rfl) (fun _ _ _ h => h) (Or.inl ⟨by rfl, ?_⟩) (HP0.out) ?_
  rotate_left
  · intro wS hSw
    go_simp
    try with_reducible rfl
  try simp only [List.getElem_toArray, List.getElem_cons_zero, List.getElem_cons_succ, Act.put, List.setIfInBounds_toArray, List.set_cons_zero, List.set_cons_succ]
  refine wpAnyH_take (i := 7) (v := ?_) rfl (by kernel_rfl) (by kernel_rfl) (by kernel_rfl) (fun _ _ _ h => h) (Or.inl ⟨by rfl, ?_⟩) (HP0.out) ?_
  rotate_left
  · intro wS hSw
    go_simp
    try with_reducible rfl
  try simp only [List.getElem_toArray, List.getElem_cons_zero, List.getElem_cons_succ, Act.put, List.setIfInBounds_toArray, List.set_cons_zero, List.set_cons_succ]
  refine wpAnyH_take (i := 9) (v := ?_) rfl (by kernel_rfl) (by kernel_rfl) (by kernel_rfl) (fun _ _ _ h => h) (Or.inl ⟨by rfl, ?_⟩) (HP0.out) ?_
  rotate_left
  · intro wS hSw
    go_simp
    try with_reducible rfl
  try simp only [List.getElem_toArray, List.getElem_cons_zero, List.getElem_cons_succ, Act.put, List.setIfInBounds_toArray, List.set_cons_zero, List.set_cons_succ]
  refine wpAnyH_take (i := 10) (v := ?_) rfl (by kernel_rfl) (by kernel_rfl) (by kernel_rfl) (fun _ _ _ h => h) (Or.inl ⟨by rfl, ?_⟩) (HP0.out) ?_
  rotate_left
  · intro wS hSw
    go_simp
    try with_reducible rfl
  try simp only [List.getElem_toArray, List.getElem_cons_zero, List.getElem_cons_succ, Act.put, List.setIfInBounds_toArray, List.set_cons_zero, List.set_cons_succ]
  refine wpAnyH_take (i := 11) (v := ?_) rfl (by kernel_rfl) (by kernel_rfl) (by kernel_rfl) (fun _ _ _ h => h) (Or.inl ⟨by rfl, ?_⟩) (HP0.out) ?_
  rotate_left
  · intro wS hSw
    go_simp
    try with_reducible rfl
  try simp only [List.getElem_toArray, List.getElem_cons_zero, List.getElem_cons_succ, Act.put, List.setIfInBounds_toArray, List.set_cons_zero, List.set_cons_succ]
  refine wpAnyH_take (i := 12) (v := ?_) rfl (by kernel_rfl) (by kernel_rfl) (by kernel_rfl) (fun _ _ _ h => h) (Or.inl ⟨by rfl, ?_⟩) (HP0.out) ?_
  rotate_left
  · intro wS hSw
    go_simp
    try with_reducible rfl
  try simp only [List.getElem_toArray, List.getElem_cons_zero, List.getElem_cons_succ, Act.put, List.setIfInBounds_toArray, List.set_cons_zero, List.set_cons_succ]
  refine wpAnyH_take (i := 14) (v := ?_) rfl (by kernel_rfl) (by kernel_rfl) (by kernel_rfl) (fun _ _ _ h => h) (Or.inl ⟨by rfl, ?_⟩) (HP0.out) ?_
  rotate_left
  · intro wS hSw
    go_simp
    try with_reducible rfl
  try simp only [List.getElem_toArray, List.getElem_cons_zero, List.getElem_cons_succ, Act.put, List.setIfInBounds_toArray, List.set_cons_zero, List.set_cons_succ]
  refine wpAnyH_take (i := 3) (v := ?_) rfl (by kernel_rfl) (by kernel_rfl) (by kernel_rfl) (fun _ _ _ h => h) (Or.inl ⟨by rfl, ?_⟩) (HP0.out) ?_
  rotate_left
  · intro wS hSw
    have hcv := hSw.2
    go_simp
    try with_reducible rfl
  try simp only [List.getElem_toArray, List.getElem_cons_zero, List.getElem_cons_succ, Act.put, List.setIfInBounds_toArray, List.set_cons_zero, List.set_cons_succ]
  refine wpAnyH_take (i := 8) (v := ?_) rfl (by kernel_rfl) (by kernel_rfl) (by kernel_rfl) (fun _ _ _ h => h) (Or.inl ⟨by rfl, ?_⟩) (HP0.out) ?_
  rotate_left
  · intro wS hSw
    have hcv := hSw.1
    go_simp
    try with_reducible rfl
  try simp only [List.getElem_toArray, List.getElem_cons_zero, List.getElem_cons_succ, Act.put, List.setIfInBounds_toArray, List.set_cons_zero, List.set_cons_succ]
  refine wpAnyH_take (i := 13) (v := ?_) rfl (by kernel_rfl) (by kernel_rfl) (by kernel_rfl) (fun _ _ _ h => h) (Or.inl ⟨by rfl, ?_⟩) (HP0.out) ?_
  rotate_left
  · intro wS hSw
    have hcv := hSw.2
    go_simp
    try with_reducible rfl
  try simp only [List.getElem_toArray, List.getElem_cons_zero, List.getElem_cons_succ, Act.put, List.setIfInBounds_toArray, List.set_cons_zero, List.set_cons_succ]
  refine wpAnyH_take (i := 15) (v := ?_) rfl (by kernel_rfl) (by kernel_rfl) (by kernel_rfl) (fun _ _ _ h => h) (Or.inl ⟨by rfl, ?_⟩) (HP0.out) ?_
  rotate_left
  · intro wS hSw
    go_simp
    try with_reducible rfl
  try simp only [List.getElem_toArray, List.getElem_cons_zero, List.getElem_cons_succ, Act.put, List.setIfInBounds_toArray, List.set_cons_zero, List.set_cons_succ]
  refine wpAnyH_ready (rs := [16]) (by kernel_rfl) (by simp) ?_
  refine AllReadyH.cons rfl (fun K hK => ?_) AllReadyH.nil
  go_simp
  refine hK.out _ _ HP0.out (fun _ => ?_)
  clear hK K
  try simp only [List.getElem_toArray, List.getElem_cons_zero, List.getElem_cons_succ, Act.put, List.setIfInBounds_toArray, List.set_cons_zero, List.set_cons_succ]
  refine wpAnyH_ready (rs := [17]) (by kernel_rfl) (by simp) ?_
  refine AllReadyH.cons rfl (fun K hK => ?_) AllReadyH.nil
  go_simp
  refine (HSC.out w2.drew (below_drewN (Below.refl _ _) 1)).mono ?_
  rintro e w3 ⟨A3, n3, c3, rfl, hn3, ho3, hb3⟩
  obtain rfl : n3 = rn := by rw [← hn3, scB_length, HRL.out]
  have hb3' : Below w2.heap.size w2 w3 := (below_drewN (Below.refl _ _) 1).trans hb3
  have HK3 := Lib.hid (HK2.out.via hb3')
  have HP3 : Hid (w3.cell? ⟨gw, 0, none⟩ = some (.pointer (some ⟨g, 0, none⟩)) ∧ w3.cell? ⟨gw, 1, none⟩ = some (.slice (some ⟨gr, 0, none⟩) n c)) := Lib.hid ⟨HK3.out.b0, HK3.out.b1⟩
  have HK4 : Hid (WkI w0 g gw gr n n3 c (L.set at_ ⟨A3, n3, c3, scB d rb⟩) (w3.setCell ⟨gr, at_, none⟩ (.slice A3 n3 c3))) := Lib.hid (HK3.out.put HHL.out ⟨A3, n3, c3, scB d rb⟩ (own_lower1 ho3 (Nat.le_trans HK2.out.dat.below.size (Nat.le_refl _))) rfl 0)
  have HS4 : Hid (Same [22] w9 (w3.setCell ⟨gr, at_, none⟩ (.slice A3 n3 c3))) := Lib.hid ((HS2.out.trans (Same.below hb3')).trans (HK3.out.same_set at_ 0 _))
  have HP4 : Hid ((w3.setCell ⟨gr, at_, none⟩ (.slice A3 n3 c3)).cell? ⟨gw, 0, none⟩ = some (.pointer (some ⟨g, 0, none⟩)) ∧ (w3.setCell ⟨gr, at_, none⟩ (.slice A3 n3 c3)).cell? ⟨gw, 1, none⟩ = some (.slice (some ⟨gr, 0, none⟩) n c)) := Lib.hid ⟨HK4.out.b0, HK4.out.b1⟩
  have hcl3 := (HK3.out.dat.cell HHL.out).1
  have hfr3 := (HK3.out.dat.cell HHL.out).2
  clear hb3 hb3' ho3 hn3 hrow2
  refine hK.out _ _ HP3.out (fun _ => ?_)
  clear hK K
  try simp only [List.getElem_toArray, List.getElem_cons_zero, List.getElem_cons_succ, Act.put, List.setIfInBounds_toArray, List.set_cons_zero, List.set_cons_succ]
  refine wpAnyH_take (i := 18) (v := ?_) rfl (by kernel_rfl) (by kernel_rfl) (by kernel_rfl) (fun _ _ _ h => h) (Or.inl ⟨by rfl, ?_⟩) HP3.out ?_
  rotate_left
  · intro wS hSw
    go_simp
    try with_reducible rfl
  try simp only [List.getElem_toArray, List.getElem_cons_zero, List.getElem_cons_succ, Act.put, List.setIfInBounds_toArray, List.set_cons_zero, List.set_cons_succ]
  refine wpAnyH_ready (rs := [19]) (by kernel_rfl) (by simp) ?_
  refine AllReadyH.cons rfl (fun K hK => ?_) AllReadyH.nil
  go_simp
  refine hK.out _ _ HP4.out (fun _ => ?_)
  clear hK K
  try simp only [List.getElem_toArray, List.getElem_cons_zero, List.getElem_cons_succ, Act.put, List.setIfInBounds_toArray, List.set_cons_zero, List.set_cons_succ]
  refine wpAnyH_done (by kernel_rfl) ?_ _
  have hb14 := HK4.out.b1
  have HB4 : Hid (bsL (L.set at_ ⟨A3, n3, c3, scB d rb⟩) = Lin.cleanL (bsL L) at_ col 0) := Lib.hid (by rw [bsL_set, Lin.cleanL_zero, HHR.out])
  generalize L.set at_ ⟨A3, n3, c3, scB d rb⟩ = L4 at *
  generalize w3.setCell ⟨gr, at_, none⟩ (.slice A3 n3 c3) = w4 at *
  clear hcl3 hfr3 HK3 HP3 HP4 HSC HK2 HF2 HP0 HHR
  go_wp2
  clear hb14
  go_loopw [52] (fun i wx => ∃ (k : Nat) (Lk : List RowB), i = .int .i64 k ∧ k ≤ n ∧ Hid (WkI w0 g gw gr n n3 c Lk wx) ∧ Hid (bsL Lk = Lin.cleanL (bsL L) at_ col k) ∧ Hid (Same [22] w9 wx)) (fun i _ => n - (intOf i).toNat)
  case atStart => exact ⟨0, L4, rfl, Nat.zero_le _, HK4, HB4, HS4⟩
  case round =>
    clear HK4 HB4 HS4
    obtain ⟨k, Lk, rfl, hk, hI, hB, hS⟩ := hrel
    by_cases hlt : k < n
    · have hkL : k < Lk.length := by rw [hI.out.dat.len]; exact hlt
      have haL : at_ < Lk.length := by rw [hI.out.dat.len]; exact ha
      have hcell := (hI.out.dat.cell hkL).1
      have hfro := (hI.out.dat.cell hkL).2
      have hrow := hI.out.at hkL
      have hwd := hI.out.wid _ (List.getElem_mem hkL)
      have hbk0 := clean_row hB.out hkL
      have HST := Lib.hid (Lin.cleanL_stay (L := bsL L) (at_ := at_) (col := col) (k := k))
      by_cases hka : k = at_
      · have HB2 : Hid (bsL Lk = Lin.cleanL (bsL L) at_ col (k + 1)) := Lib.hid (by rw [HST.out (.inl hka)]; exact hB.out)
        have hkd : ((k : Int) != (at_ : Int)) = false := by simp; omega
        have hkd2 : ((k : Int) == (at_ : Int)) = true := by simp; omega
        generalize Lk[k] = r at *
        obtain ⟨RA, rm, rk, rs⟩ := r
        simp only [RowB.v] at hcell
        clear hka hB HST hwd hbk0 hfro hrow haL hkL
        go_wp2
        exact ⟨⟨k + 1, Lk, by go_num, hlt, hI, HB2, hS⟩, by simp [intOf]; omega⟩
      · have hkd : ((k : Int) != (at_ : Int)) = true := by simp; omega
        have hkd2 : ((k : Int) == (at_ : Int)) = false := by simp; omega
        have hbk := hbk0 hka
        clear hbk0
        have hkl : k < (bsL L).length := by rw [bsL_length, HLN.out]; exact hlt
        have HNX := Lib.hid (Lin.cleanL_next (L := bsL L) (at_ := at_) (col := col) hkl hka)
        have hwa := hI.out.wid _ (List.getElem_mem haL)
        have hrowa := hI.out.at haL
        have hha := clean_head hB.out haL
        have hF := hI.out.wkf haL rfl
        have hkbs : (bsL L)[k] = (bsL L).getD k [] := (Lin.getD_at hkl).symm
        generalize Lk[at_] = ra at *
        obtain ⟨AA, an, ac, as_⟩ := ra
        obtain rfl : n3 = an := hwa.symm
        simp only at hha
        generalize Lk[k] = r at *
        obtain ⟨RA, rm, rk, rs⟩ := r
        simp only [RowB.v] at hcell
        simp only at hbk
        obtain rfl : n3 = rm := hwd.symm
        have hrl : rs.length = n3 := hrow.len
        have hal : as_.length = n3 := hrowa.len
        have hac : n3 ≤ ac := hrowa.cap
        rw [hkbs, ← hbk, ← hha] at HNX
        obtain ⟨kad, hkA, _, hbyte⟩ := hrow.rd.byte (k := col) (by rw [hrl]; exact hc)
        simp only at hkA
        subst hkA
        rw [getD_0 (by rw [hrl]; exact hc)] at HNX
        have hyc : ((bsL L).getD k []).getD col 0 = rs[col]'(by rw [hrl]; exact hc) := (congrArg (fun l : List UInt8 => l.getD col 0) hbk.symm).trans (getD_0 (by rw [hrl]; exact hc))
        generalize rs[col]'(by rw [hrl]; exact hc) = y at *
        by_cases hy0 : y = 0
        · have HB2 : Hid (bsL Lk = Lin.cleanL (bsL L) at_ col (k + 1)) := Lib.hid (by rw [HST.out (.inr (hyc.trans hy0))]; exact hB.out)
          subst hy0
          clear hka hB HST hfro hrow haL hkL HNX hbk hha hF hkbs hrowa hyc hkl hal
          go_wp2
          exact ⟨⟨k + 1, Lk, by go_num, hlt, hI, HB2, hS⟩, by simp [intOf]; omega⟩
        · have hy1 := Lin.ne8 hy0
          have hyd : (((y.toNat : Nat) : Int) != 0) = true := by simp; omega
          have hyd2 : (((y.toNat : Nat) : Int) == 0) = false := by simp; omega
          have HFO := Lib.hid fun w1 (hw : Below wr.heap.size wr w1) => fldFoldF g y.toNat y.toNat_lt AA ac as_ (some kad) rk rs w1 (hI.out.full.on hw) wr.heap.size wr.heap.size (hrowa.rd.below hw) (hrow.rd.below hw) hal hrl hw.size hw.size (by omega) (by omega) hac
          have HRL := Lib.hid hrl
          have HKL := Lib.hid hkL
          have HSI := Lib.hid hI.out.dat.below.size
          have hP0 : wr.drew.cell? ⟨gw, 0, none⟩ = some (.pointer (some ⟨g, 0, none⟩)) ∧ wr.drew.cell? ⟨gw, 1, none⟩ = some (.slice (some ⟨gr, 0, none⟩) n c) ∧ wr.drew.cell? ⟨gr, at_, none⟩ = some (.slice AA n3 ac) := ⟨hF.b0, hF.b1, hF.row⟩
          have HP0 := Lib.hid hP0
          have b1' := hF.b1
          have hbyte2 : wr.drew.cell? (kad.add col) = some (.int .u8 ((y.toNat : Nat) : Int)) := hbyte
          have HPUT := Lib.hid fun w3 (hb : Below wr.heap.size wr w3) (r : RowB) (ho : w3.ownsRow w0.heap.size 5 1 (.slice r.A r.n r.c) r.n (r.bs.map bv)) (hW : r.n = n3) => WkI.put (hI.out.via hb) hkL r ho hW 0
          have HVIA := Lib.hid fun w3 (hb : Below wr.heap.size wr w3) => hI.out.via hb
          have HKA := Lib.hid hka
          have HBB := Lib.hid hB.out
          clear hka hB HST hfro hrow haL hkL hbk hha hF hkbs hrowa hyc hkl hal hI hy0 hy1 hrl hP0
          go_wp2
          clear b1' hcell hbyte
          refine wp_region_held_drew (S := (fun wQq => wQq.cell? ⟨gw, 0, none⟩ = some (.pointer (some ⟨g, 0, none⟩)) ∧ wQq.cell? ⟨gw, 1, none⟩ = some (.slice (some ⟨gr, 0, none⟩) n c) ∧ wQq.cell? ⟨gr, at_, none⟩ = some (.slice AA n3 ac))) (by kernel_rfl) (HP0.out) (fun _ => ?_)
          refine wpAnyH_take (i := 0) (v := ?_) rfl (by kernel_rfl) (by kernel_rfl) (by kernel_rfl) (fun _ _ _ h => h) (Or.inl ⟨by rfl, ?_⟩) (HP0.out) ?_
          rotate_left
          · intro wS hSw
            go_simp
            try with_reducible rfl
          try simp only [List.getElem_toArray, List.getElem_cons_zero, List.getElem_cons_succ, Act.put, List.setIfInBounds_toArray, List.set_cons_zero, List.set_cons_succ]
          refine wpAnyH_take (i := 1) (v := ?_) rfl (by kernel_rfl) (by kernel_rfl) (by kernel_rfl) (fun _ _ _ h => h) (Or.inl ⟨by rfl, ?_⟩) (HP0.out) ?_
          rotate_left
          · intro wS hSw
            go_simp
            try with_reducible rfl
          try simp only [List.getElem_toArray, List.getElem_cons_zero, List.getElem_cons_succ, Act.put, List.setIfInBounds_toArray, List.set_cons_zero, List.set_cons_succ]
          refine wpAnyH_take (i := 2) (v := ?_) rfl (by kernel_rfl) (by kernel_rfl) (by kernel_rfl) (fun _ _ _ h => h) (Or.inl ⟨by rfl, ?_⟩) (HP0.out) ?_
          rotate_left
          · intro wS hSw
            go_simp
            try with_reducible rfl
          try simp only [List.getElem_toArray, List.getElem_cons_zero, List.getElem_cons_succ, Act.put, List.setIfInBounds_toArray, List.set_cons_zero, List.set_cons_succ]
          refine wpAnyH_take (i := 4) (v := ?_) rfl (by kernel_rfl) (by kernel_rfl) (by kernel_rfl) (fun _ _ _ h => h) (Or.inl ⟨by rfl, ?_⟩) (HP0.out) ?_
          rotate_left
          · intro wS hSw
            go_simp
            try with_reducible rfl
          try simp only [List.getElem_toArray, List.getElem_cons_zero, List.getElem_cons_succ, Act.put, List.setIfInBounds_toArray, List.set_cons_zero, List.set_cons_succ]
          refine wpAnyH_take (i := 5) (v := ?_) rfl (by kernel_rfl) (by kernel_rfl) (by kernel_rfl) (fun _ _ _ h => h) (Or.inl ⟨by rfl, ?_⟩) (HP0.out) ?_
          rotate_left
          · intro wS hSw
            go_simp
            try with_reducible rfl
          try simp only [List.getElem_toArray, List.getElem_cons_zero, List.getElem_cons_succ, Act.put, List.setIfInBounds_toArray, List.set_cons_zero, List.set_cons_succ]
          refine wpAnyH_take (i := 6) (v := ?_) rfl (by kernel_rfl) (by kernel_rfl) (by kernel_rfl) (fun _ _ _ h => h) (Or.inl ⟨by rfl, ?_⟩) (HP0.out) ?_
          rotate_left
          · intro wS hSw
            go_simp
            try with_reducible rfl
          try simp only [List.getElem_toArray, List.getElem_cons_zero, List.getElem_cons_succ, Act.put, List.setIfInBounds_toArray, List.set_cons_zero, List.set_cons_succ]
          refine wpAnyH_take (i := 7) (v := ?_) rfl (by kernel_rfl) (by kernel_rfl) (by kernel_rfl) (fun _ _ _ h => h) (Or.inl ⟨by rfl, ?_⟩) (HP0.out) ?_
          rotate_left
          · intro wS hSw
            go_simp
            try with_reducible rfl
          try simp only [List.getElem_toArray, List.getElem_cons_zero, List.getElem_cons_succ, Act.put, List.setIfInBounds_toArray, List.set_cons_zero, List.set_cons_succ]
          refine wpAnyH_take (i := 9) (v := ?_) rfl (by kernel_rfl) (by kernel_rfl) (by kernel_rfl) (fun _ _ _ h => h) (Or.inl ⟨by rfl, ?_⟩) (HP0.out) ?_
          rotate_left
          · intro wS hSw
            go_simp
            try with_reducible rfl
          try simp only [List.getElem_toArray, List.getElem_cons_zero, List.getElem_cons_succ, Act.put, List.setIfInBounds_toArray, List.set_cons_zero, List.set_cons_succ]
          refine wpAnyH_take (i := 10) (v := ?_) rfl (by kernel_rfl) (by kernel_rfl) (by kernel_rfl) (fun _ _ _ h => h) (Or.inl ⟨by rfl, ?_⟩) (HP0.out) ?_
          rotate_left
          · intro wS hSw
            go_simp
            try with_reducible rfl
          try simp only [List.getElem_toArray, List.getElem_cons_zero, List.getElem_cons_succ, Act.put, List.setIfInBounds_toArray, List.set_cons_zero, List.set_cons_succ]
          refine wpAnyH_take (i := 11) (v := ?_) rfl (by kernel_rfl) (by kernel_rfl) (by kernel_rfl) (fun _ _ _ h => h) (Or.inl ⟨by rfl, ?_⟩) (HP0.out) ?_
          rotate_left
          · intro wS hSw
            go_simp
            try with_reducible rfl
          try simp only [List.getElem_toArray, List.getElem_cons_zero, List.getElem_cons_succ, Act.put, List.setIfInBounds_toArray, List.set_cons_zero, List.set_cons_succ]
          refine wpAnyH_take (i := 13) (v := ?_) rfl (by kernel_rfl) (by kernel_rfl) (by kernel_rfl) (fun _ _ _ h => h) (Or.inl ⟨by rfl, ?_⟩) (HP0.out) ?_
          rotate_left
          · intro wS hSw
            go_simp
            try with_reducible rfl
          try simp only [List.getElem_toArray, List.getElem_cons_zero, List.getElem_cons_succ, Act.put, List.setIfInBounds_toArray, List.set_cons_zero, List.set_cons_succ]
          refine wpAnyH_take (i := 14) (v := ?_) rfl (by kernel_rfl) (by kernel_rfl) (by kernel_rfl) (fun _ _ _ h => h) (Or.inl ⟨by rfl, ?_⟩) (HP0.out) ?_
          rotate_left
          · intro wS hSw
            go_simp
            try with_reducible rfl
          try simp only [List.getElem_toArray, List.getElem_cons_zero, List.getElem_cons_succ, Act.put, List.setIfInBounds_toArray, List.set_cons_zero, List.set_cons_succ]
          refine wpAnyH_take (i := 15) (v := ?_) rfl (by kernel_rfl) (by kernel_rfl) (by kernel_rfl) (fun _ _ _ h => h) (Or.inl ⟨by rfl, ?_⟩) (HP0.out) ?_
          rotate_left
          · intro wS hSw
            go_simp
            try with_reducible rfl
          try simp only [List.getElem_toArray, List.getElem_cons_zero, List.getElem_cons_succ, Act.put, List.setIfInBounds_toArray, List.set_cons_zero, List.set_cons_succ]
          refine wpAnyH_take (i := 17) (v := ?_) rfl (by kernel_rfl) (by kernel_rfl) (by kernel_rfl) (fun _ _ _ h => h) (Or.inl ⟨by rfl, ?_⟩) (HP0.out) ?_
          rotate_left
          · intro wS hSw
            go_simp
            try with_reducible rfl
          try simp only [List.getElem_toArray, List.getElem_cons_zero, List.getElem_cons_succ, Act.put, List.setIfInBounds_toArray, List.set_cons_zero, List.set_cons_succ]
          refine wpAnyH_take (i := 20) (v := ?_) rfl (by kernel_rfl) (by kernel_rfl) (by kernel_rfl) (fun _ _ _ h => h) (Or.inl ⟨by rfl, ?_⟩) (HP0.out) ?_
          rotate_left
          · intro wS hSw
            go_simp
            try with_reducible rfl
          try simp only [List.getElem_toArray, List.getElem_cons_zero, List.getElem_cons_succ, Act.put, List.setIfInBounds_toArray, List.set_cons_zero, List.set_cons_succ]
          refine wpAnyH_take (i := 3) (v := ?_) rfl (by kernel_rfl) (by kernel_rfl) (by kernel_rfl) (fun _ _ _ h => h) (Or.inl ⟨by rfl, ?_⟩) (HP0.out) ?_
          rotate_left
          · intro wS hSw
            have hcv := hSw.2.1
            go_simp
            try with_reducible rfl
          try simp only [List.getElem_toArray, List.getElem_cons_zero, List.getElem_cons_succ, Act.put, List.setIfInBounds_toArray, List.set_cons_zero, List.set_cons_succ]
          refine wpAnyH_take (i := 8) (v := ?_) rfl (by kernel_rfl) (by kernel_rfl) (by kernel_rfl) (fun _ _ _ h => h) (Or.inl ⟨by rfl, ?_⟩) (HP0.out) ?_
          rotate_left
          · intro wS hSw
            have hcv := hSw.1
            go_simp
            try with_reducible rfl
          try simp only [List.getElem_toArray, List.getElem_cons_zero, List.getElem_cons_succ, Act.put, List.setIfInBounds_toArray, List.set_cons_zero, List.set_cons_succ]
          refine wpAnyH_take (i := 16) (v := ?_) rfl (by kernel_rfl) (by kernel_rfl) (by kernel_rfl) (fun _ _ _ h => h) (Or.inl ⟨by rfl, ?_⟩) (HP0.out) ?_
          rotate_left
          · intro wS hSw
            have hcv := hSw.2.1
            go_simp
            try with_reducible rfl
          try simp only [List.getElem_toArray, List.getElem_cons_zero, List.getElem_cons_succ, Act.put, List.setIfInBounds_toArray, List.set_cons_zero, List.set_cons_succ]
          refine wpAnyH_take (i := 18) (v := ?_) rfl (by kernel_rfl) (by kernel_rfl) (by kernel_rfl) (fun _ _ _ h => h) (Or.inl ⟨by rfl, ?_⟩) (HP0.out) ?_
          rotate_left
          · intro wS hSw
            go_simp
            try with_reducible rfl
          try simp only [List.getElem_toArray, List.getElem_cons_zero, List.getElem_cons_succ, Act.put, List.setIfInBounds_toArray, List.set_cons_zero, List.set_cons_succ]
          refine wpAnyH_take (i := 19) (v := ?_) rfl (by kernel_rfl) (by kernel_rfl) (by kernel_rfl) (fun _ _ _ h => h) (Or.inl ⟨by rfl, ?_⟩) (HP0.out) ?_
          rotate_left
          · intro wS hSw
            have hcv := hSw.2.2
            go_simp
            try with_reducible rfl
          try simp only [List.getElem_toArray, List.getElem_cons_zero, List.getElem_cons_succ, Act.put, List.setIfInBounds_toArray, List.set_cons_zero, List.set_cons_succ]
          refine wpAnyH_ready (rs := [12]) (by kernel_rfl) (by simp) ?_
          refine AllReadyH.cons rfl (fun K hK => ?_) AllReadyH.nil
          go_simp
          refine hK.out _ _ HP0.out (fun _ => ?_)
          clear hK K
          try simp only [List.getElem_toArray, List.getElem_cons_zero, List.getElem_cons_succ, Act.put, List.setIfInBounds_toArray, List.set_cons_zero, List.set_cons_succ]
          refine wpAnyH_ready (rs := [21]) (by kernel_rfl) (by simp) ?_
          refine AllReadyH.cons rfl (fun K hK => ?_) AllReadyH.nil
          go_simp
          refine (HFO.out wr.drew (below_drewN (Below.refl _ _) 1)).mono ?_
          rintro e w3 ⟨A3, m3, c3, rfl, hm3, ho3, hb3⟩
          obtain rfl : n3 = m3 := by rw [← hm3, foB_length, HRL.out]
          have hb3' : Below wr.heap.size wr w3 := (below_drewN (Below.refl _ _) 1).trans hb3
          have HK3 := Lib.hid (HVIA.out w3 hb3')
          have HP3 : Hid (w3.cell? ⟨gw, 0, none⟩ = some (.pointer (some ⟨g, 0, none⟩)) ∧ w3.cell? ⟨gw, 1, none⟩ = some (.slice (some ⟨gr, 0, none⟩) n c) ∧ w3.cell? ⟨gr, at_, none⟩ = some (.slice AA n3 ac)) := Lib.hid ⟨HK3.out.b0, HK3.out.b1, (hb3'.cell (block_lt_of_cell HP0.out.2.2)).trans HP0.out.2.2⟩
          have HS4 : Hid (Same [22] w9 (w3.setCell ⟨gr, k, none⟩ (.slice A3 n3 c3))) := Lib.hid ((hS.out.trans (Same.below hb3')).trans (HK3.out.same_set k 0 _))
          have HK4 : Hid (WkI w0 g gw gr n n3 c (Lk.set k ⟨A3, n3, c3, foB y.toNat as_ rs⟩) (w3.setCell ⟨gr, k, none⟩ (.slice A3 n3 c3))) := Lib.hid (HPUT.out w3 hb3' ⟨A3, n3, c3, foB y.toNat as_ rs⟩ (own_lower1 ho3 HSI.out) rfl)
          have HP4 : Hid ((w3.setCell ⟨gr, k, none⟩ (.slice A3 n3 c3)).cell? ⟨gw, 0, none⟩ = some (.pointer (some ⟨g, 0, none⟩)) ∧ (w3.setCell ⟨gr, k, none⟩ (.slice A3 n3 c3)).cell? ⟨gw, 1, none⟩ = some (.slice (some ⟨gr, 0, none⟩) n c) ∧ (w3.setCell ⟨gr, k, none⟩ (.slice A3 n3 c3)).cell? ⟨gr, at_, none⟩ = some (.slice AA n3 ac)) := Lib.hid ⟨HK4.out.b0, HK4.out.b1, (World.cell?_setCell_other w3 ⟨gr, k, none⟩ ⟨gr, at_, none⟩ _ (fun e => HKA.out (by cases e; rfl))).trans HP3.out.2.2⟩
          have hcl3 := (HK3.out.dat.cell HKL.out).1
          have hfr3 := (HK3.out.dat.cell HKL.out).2
          clear hb3 hb3' ho3 hm3 hbyte2
          refine hK.out _ _ HP3.out (fun _ => ?_)
          clear hK K
          try simp only [List.getElem_toArray, List.getElem_cons_zero, List.getElem_cons_succ, Act.put, List.setIfInBounds_toArray, List.set_cons_zero, List.set_cons_succ]
          refine wpAnyH_take (i := 22) (v := ?_) rfl (by kernel_rfl) (by kernel_rfl) (by kernel_rfl) (fun _ _ _ h => h) (Or.inl ⟨by rfl, ?_⟩) HP3.out ?_
          rotate_left
          · intro wS hSw
            go_simp
            try with_reducible rfl
          try simp only [List.getElem_toArray, List.getElem_cons_zero, List.getElem_cons_succ, Act.put, List.setIfInBounds_toArray, List.set_cons_zero, List.set_cons_succ]
          refine wpAnyH_ready (rs := [23]) (by kernel_rfl) (by simp) ?_
          refine AllReadyH.cons rfl (fun K hK => ?_) AllReadyH.nil
          go_simp
          refine hK.out _ _ HP4.out (fun _ => ?_)
          clear hK K
          try simp only [List.getElem_toArray, List.getElem_cons_zero, List.getElem_cons_succ, Act.put, List.setIfInBounds_toArray, List.set_cons_zero, List.set_cons_succ]
          refine wpAnyH_done (by kernel_rfl) ?_ _
          have HB4 : Hid (bsL (Lk.set k ⟨A3, n3, c3, foB y.toNat as_ rs⟩) = Lin.cleanL (bsL L) at_ col (k + 1)) := Lib.hid (by rw [bsL_set, HBB.out, HNX.out])
          generalize Lk.set k ⟨A3, n3, c3, foB y.toNat as_ rs⟩ = L4 at *
          generalize w3.setCell ⟨gr, k, none⟩ (.slice A3 n3 c3) = w4 at *
          clear hcl3 hfr3 HK3 HP3 HP4 HFO HPUT HVIA HP0
          go_wp2
          exact ⟨⟨k + 1, L4, by go_num, hlt, HK4, HB4, HS4⟩, by simp [intOf]; omega⟩
    · obtain rfl : k = n := by omega
      clear hlt
      go_wp2
      first | go_end0 | (simp only [Exit.inBlock, Exit.then]; refine bodyPost_ret (results_none rfl _ _ _) rfl ?_) | refine bodyPost_ret (results_none rfl _ _ _) rfl ?_
      exact ⟨rfl, Lk, hI.out, hB.out, hS.out⟩
end Cib
