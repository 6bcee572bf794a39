/- Invert: without a field, of what isn't square; the closure that tells the inverse's numbers. -/
import Derived.Test.YtnicfpkadiamaaaMatB
import Derived.Test.YtnicfpkadiamaaaMatN
set_option linter.unusedVariables false
set_option linter.unusedSimpArgs false
set_option maxRecDepth 40000
namespace Cib
open Go Go.RowKit Go.Proofs
theorem nilInvert (r c : Int) (A : Option Addr) (n k : Nat) (w : World) : Calls Try.prog 12 #[.pointer none, .agg (mv r c A n k)] w fun e w' => e = .returned (.tuple #[.agg (mv 0 0 none 0 0), .int .i64 1]) ∧ Below w.heap.size w w' := by
  unfold mv
  go_enter Try.func12, Try.ntmps12
  go_wp2_with fail
  refine (nilNobody _).mono ?_
  rintro e w1 ⟨rfl, rfl⟩
  go_wp2
  refine bodyPost_ret (results_mat2 (g := w.heap.size + 1) (te := 24) (cs := mv 0 0 none 0 0) (fr := (0, 0)) rfl _ _ _ rfl ?_ Try.underlying24 rfl matInfo3) rfl ⟨rfl, ?_⟩
  · have := Blk.new (w.alloc (.cells (mv r c A n k) 24)) 24 (mv 0 0 none 0 0)
    simpa [mv, Blk] using this
  · exact ((Below.refl _ _).alloc (Nat.le_refl _) _).alloc (by simp) _
/-- Invert's boxes: the matrix, and the result. -/
structure InvW (w : World) (r c : Int) (A : Option Addr) (n k : Nat) (wa : World) : Prop where
  m : Blk wa w.heap.size 24 (mv r c A n k)
  z : Blk wa (w.heap.size + 1) 24 (mv 0 0 none 0 0)
theorem InvW.new (w : World) (r c : Int) (A : Option Addr) (n k : Nat) : InvW w r c A n k ((w.alloc (.cells (mv r c A n k) 24)).alloc (.cells (mv 0 0 none 0 0) 24)) :=
  ⟨(Blk.new w _ _).alloc _, by have := Blk.new (w.alloc (.cells (mv r c A n k) 24)) 24 (mv 0 0 none 0 0); simpa using this⟩
theorem InvW.below {w wa wb : World} {r c : Int} {A : Option Addr} {n k : Nat} (h : InvW w r c A n k wa) (hb : Below wa.heap.size wa wb) : InvW w r c A n k wb := ⟨h.m.below hb h.m.lt, h.z.below hb h.z.lt⟩
theorem InvW.aft {w wa wb : World} {g : Nat} {r c : Int} {A : Option Addr} {n k : Nat} (h : InvW w r c A n k wa) (ha : Aft g wa wb) (hg : g < w.heap.size) : InvW w r c A n k wb := ⟨ha.blk (by omega) h.m, ha.blk (by omega) h.z⟩
theorem Fld.on {w w' : World} {g : Nat} (h : Fld w g) (hb : Below w.heap.size w w') : Fld w' g := by
  rcases h with h | h
  · exact .inl (h.below hb (Blk.lt h))
  · exact .inr (h.below hb (Blk.lt h))
set_option maxHeartbeats 2000000 in
theorem matInvertNo (g : Nat) (r c : Int) (A : Option Addr) (n k : Nat) (w : World) (h : Fld w g) (hn : n ≤ 140737488355328) (hno : mr r c n = false ∨ r ≠ c) :
    Calls Try.prog 12 #[.pointer (some ⟨g, 0, none⟩), .agg (mv r c A n k)] w (NoM g 2 w) := by
  have hz : Below w.heap.size w ((w.alloc (.cells (mv r c A n k) 24)).alloc (.cells (mv 0 0 none 0 0) 24)) := ((Below.refl _ _).alloc (Nat.le_refl _) _).alloc (by simp) _
  have HIW := Lib.hid (InvW.new w r c A n k)
  have HFA := Lib.hid (h.on hz)
  have HGL := Lib.hid h.lt
  have HZ := Lib.hid hz
  have HRI := Lib.hid fun W => matRight r c A n k hn W
  obtain ⟨b, hb⟩ : ∃ b, mr r c n = b := ⟨_, rfl⟩
  rw [hb] at HRI hno
  clear h hz hb
  unfold mv at HRI HFA HZ ⊢
  go_enter Try.func12, Try.ntmps12
  go_wp2_with fail
  refine (matNobody g _ HFA.out).mono ?_
  rintro e w1 ⟨rfl, ha⟩
  have HS1 := Lib.hid (ha.stp2 HZ.out)
  have HI1 := Lib.hid (HIW.out.aft ha HGL.out)
  have m0 := HI1.out.m.cell 0
  have m1 := HI1.out.m.cell 1
  have m2 := HI1.out.m.cell 2
  unfold mv at m0 m1 m2
  simp only [List.getElem?_toArray, List.getElem?_cons_zero, List.getElem?_cons_succ] at m0 m1 m2
  clear ha HFA HIW HZ
  go_wp2_with fail
  refine (HRI.out _).mono ?_
  rintro e w2 ⟨rfl, hb2⟩
  have HI2 := Lib.hid (HI1.out.below hb2)
  have HS2 := Lib.hid (HS1.out.via hb2)
  have n0 := HI2.out.m.cell 0
  have n1 := HI2.out.m.cell 1
  unfold mv at n0 n1
  simp only [List.getElem?_toArray, List.getElem?_cons_zero, List.getElem?_cons_succ] at n0 n1
  have hz2 := HI2.out.z
  clear hb2 m0 m1 m2 HI1 HS1
  have hfin : ∀ W : World, W = w2.setRow (w.heap.size + 1) (mv 0 0 none 0 0) → Blk W (w.heap.size + 1) 24 (mv 0 0 none 0 0) ∧ Stp g w W := fun W e => by
    subst e
    exact ⟨hz2.row _, HS2.out.setRow (by omega) (by have := HGL.out; omega) _⟩
  have HFIN := Lib.hid hfin
  clear hfin
  cases b
  · go_wp2_with (refine wpList_store_row rfl 24 (.tmp 4) (.tmp 22) rfl (w.heap.size + 1) (mv 0 0 none 0 0) rfl rfl 24 (mv 0 0 none 0 0) hz2 matInfo3 rfl (mv_one _ _ _ _ _) ?_)
    refine bodyPost_ret (results_mat2 (g := w.heap.size + 1) (te := 24) (cs := mv 0 0 none 0 0) (fr := (0, 0)) rfl _ _ _ rfl (HFIN.out _ rfl).1 Try.underlying24 rfl matInfo3) rfl ⟨rfl, (HFIN.out _ rfl).2⟩
  · have hrc : r ≠ c := hno.resolve_left (by decide)
    have hd1 : (r != c) = true := by simpa using hrc
    have hd2 : (r == c) = false := by simpa using hrc
    clear hno hrc
    go_wp2_with (refine wpList_store_row rfl 24 (.tmp 4) (.tmp 22) rfl (w.heap.size + 1) (mv 0 0 none 0 0) rfl rfl 24 (mv 0 0 none 0 0) hz2 matInfo3 rfl (mv_one _ _ _ _ _) ?_)
    refine bodyPost_ret (results_mat2 (g := w.heap.size + 1) (te := 24) (cs := mv 0 0 none 0 0) (fr := (0, 0)) rfl _ _ _ rfl (HFIN.out _ rfl).1 Try.underlying24 rfl matInfo3) rfl ⟨rfl, (HFIN.out _ rfl).2⟩
/-- A number of the inverse. -/
theorem matInvCell {w0 W : World} {g gw gr n Wd c : Nat} {L : List RowB} (h : WkI w0 g gw gr n Wd c L W) (g6 g3 : Nat) (cols i j : Nat) (r' : Int) (A : Option Addr) (na ka : Nat)
    (h6 : W.cell? ⟨g6, 0, none⟩ = some (.pointer (some ⟨gw, 0, none⟩))) (h3 : Blk W g3 24 (mv r' cols A na ka)) (hi : i < n) (hj : cols + j < Wd) (hW : Wd ≤ 65536) (hn : n ≤ 65536) :
    Calls Try.prog 33 #[.int .i64 (i : Int), .int .i64 (j : Int), .pointer (some ⟨g6, 0, none⟩), .pointer (some ⟨g3, 0, none⟩)] W fun e W' => e = .returned (.int .u8 ((Lin.ent (bsL L) i (cols + j)).toNat : Int)) ∧ Below W.heap.size W W' := by
  have hiL : i < L.length := by rw [h.dat.len]; exact hi
  have hcell := (h.dat.cell hiL).1
  have b1 := h.b1
  have m1 := h3.cell 1
  unfold mv at m1
  simp only [List.getElem?_toArray, List.getElem?_cons_zero, List.getElem?_cons_succ] at m1
  have hrow := h.at hiL
  have hwd := h.wid _ (List.getElem_mem hiL)
  rw [bsL_ent hiL]
  generalize L[i] = r at *
  obtain ⟨RA, rn, rc, rb⟩ := r
  simp only [RowB.v] at hcell
  simp only at hwd
  obtain rfl : Wd = rn := hwd.symm
  have hrl : rb.length = Wd := hrow.len
  obtain ⟨rad, hra, _, hbyte⟩ := hrow.rd.byte (k := cols + j) (by rw [hrl]; exact hj)
  simp only at hra
  subst hra
  rw [getD_0 (by rw [hrl]; exact hj)]
  generalize rb[cols + j]'(by rw [hrl]; exact hj) = x at *
  have l1 := block_lt_of_cell h6
  have l2 := block_lt_of_cell b1
  have l3 := block_lt_of_cell hcell
  have l4 := block_lt_of_cell m1
  have l5 := block_lt_of_cell hbyte
  have hx1 : (0 : Int) ≤ (cols : Int) + (j : Int) := by omega
  have hx2 : ((cols : Int) + (j : Int)).toNat = cols + j := by omega
  have hx3 : (cols : Int) + (j : Int) < (Wd : Int) := by omega
  have hx4 : IntKind.i64.wrap ((cols : Int) + (j : Int)) = (cols : Int) + (j : Int) := by rw [IntKind.wrap_i64]; omega
  clear h h3 hrow hrl hiL
  go_enter Try.func33, Try.ntmps33
  go_wp2
  refine wp_region_held_drew (S := (fun wQq => Below (World.heap (W.drew)).size (W.drew) wQq)) (by kernel_rfl) (by exact Below.refl _ _) (fun _ => ?_)
  refine wpAnyH_take (i := 4) (v := ?_) rfl (by kernel_rfl) (by kernel_rfl) (by kernel_rfl) (fun _ _ _ h => h) (Or.inl ⟨by rfl, ?_⟩) (Below.refl _ _) ?_
  rotate_left
  · intro wS hSw
    go_simp
    try with_reducible rfl
  try simp only [List.getElem_toArray, List.getElem_cons_zero, List.getElem_cons_succ, Act.put, List.setIfInBounds_toArray, List.set_cons_zero, List.set_cons_succ]
  refine wpAnyH_take (i := 7) (v := ?_) rfl (by kernel_rfl) (by kernel_rfl) (by kernel_rfl) (fun _ _ _ h => h) (Or.inl ⟨by rfl, ?_⟩) (Below.refl _ _) ?_
  rotate_left
  · intro wS hSw
    go_simp
    try with_reducible rfl
  try simp only [List.getElem_toArray, List.getElem_cons_zero, List.getElem_cons_succ, Act.put, List.setIfInBounds_toArray, List.set_cons_zero, List.set_cons_succ]
  refine wpAnyH_take (i := 9) (v := ?_) rfl (by kernel_rfl) (by kernel_rfl) (by kernel_rfl) (fun _ _ _ h => h) (Or.inl ⟨by rfl, ?_⟩) (Below.refl _ _) ?_
  rotate_left
  · intro wS hSw
    go_simp
    try with_reducible rfl
  try simp only [List.getElem_toArray, List.getElem_cons_zero, List.getElem_cons_succ, Act.put, List.setIfInBounds_toArray, List.set_cons_zero, List.set_cons_succ]
  refine wpAnyH_take (i := 0) (v := ?_) rfl (by kernel_rfl) (by kernel_rfl) (by kernel_rfl) (fun _ _ _ h => h) (Or.inl ⟨by rfl, ?_⟩) (Below.refl _ _) ?_
  rotate_left
  · intro wS hSw
    have hcv := ((hSw.cell (p := ⟨g6, 0, none⟩) (by exact l1)).trans h6)
    go_simp
    try with_reducible rfl
  try simp only [List.getElem_toArray, List.getElem_cons_zero, List.getElem_cons_succ, Act.put, List.setIfInBounds_toArray, List.set_cons_zero, List.set_cons_succ]
  refine wpAnyH_take (i := 1) (v := ?_) rfl (by kernel_rfl) (by kernel_rfl) (by kernel_rfl) (fun _ _ _ h => h) (Or.inl ⟨by rfl, ?_⟩) (Below.refl _ _) ?_
  rotate_left
  · intro wS hSw
    go_simp
    try with_reducible rfl
  try simp only [List.getElem_toArray, List.getElem_cons_zero, List.getElem_cons_succ, Act.put, List.setIfInBounds_toArray, List.set_cons_zero, List.set_cons_succ]
  refine wpAnyH_take (i := 2) (v := ?_) rfl (by kernel_rfl) (by kernel_rfl) (by kernel_rfl) (fun _ _ _ h => h) (Or.inl ⟨by rfl, ?_⟩) (Below.refl _ _) ?_
  rotate_left
  · intro wS hSw
    go_simp
    try with_reducible rfl
  try simp only [List.getElem_toArray, List.getElem_cons_zero, List.getElem_cons_succ, Act.put, List.setIfInBounds_toArray, List.set_cons_zero, List.set_cons_succ]
  refine wpAnyH_take (i := 3) (v := ?_) rfl (by kernel_rfl) (by kernel_rfl) (by kernel_rfl) (fun _ _ _ h => h) (Or.inl ⟨by rfl, ?_⟩) (Below.refl _ _) ?_
  rotate_left
  · intro wS hSw
    have hcv := ((hSw.cell (p := ⟨gw, 1, none⟩) (by exact l2)).trans b1)
    go_simp
    try with_reducible rfl
  try simp only [List.getElem_toArray, List.getElem_cons_zero, List.getElem_cons_succ, Act.put, List.setIfInBounds_toArray, List.set_cons_zero, List.set_cons_succ]
  refine wpAnyH_take (i := 5) (v := ?_) rfl (by kernel_rfl) (by kernel_rfl) (by kernel_rfl) (fun _ _ _ h => h) (Or.inl ⟨by rfl, ?_⟩) (Below.refl _ _) ?_
  rotate_left
  · intro wS hSw
    go_simp
    try with_reducible rfl
  try simp only [List.getElem_toArray, List.getElem_cons_zero, List.getElem_cons_succ, Act.put, List.setIfInBounds_toArray, List.set_cons_zero, List.set_cons_succ]
  refine wpAnyH_take (i := 6) (v := ?_) rfl (by kernel_rfl) (by kernel_rfl) (by kernel_rfl) (fun _ _ _ h => h) (Or.inl ⟨by rfl, ?_⟩) (Below.refl _ _) ?_
  rotate_left
  · intro wS hSw
    have hcv := ((hSw.cell (p := ⟨gr, i, none⟩) (by exact l3)).trans hcell)
    go_simp
    try with_reducible rfl
  try simp only [List.getElem_toArray, List.getElem_cons_zero, List.getElem_cons_succ, Act.put, List.setIfInBounds_toArray, List.set_cons_zero, List.set_cons_succ]
  refine wpAnyH_take (i := 8) (v := ?_) rfl (by kernel_rfl) (by kernel_rfl) (by kernel_rfl) (fun _ _ _ h => h) (Or.inl ⟨by rfl, ?_⟩) (Below.refl _ _) ?_
  rotate_left
  · intro wS hSw
    have hcv := ((hSw.cell (p := ⟨g3, 1, none⟩) (by exact l4)).trans m1)
    go_simp
    try with_reducible rfl
  try simp only [List.getElem_toArray, List.getElem_cons_zero, List.getElem_cons_succ, Act.put, List.setIfInBounds_toArray, List.set_cons_zero, List.set_cons_succ]
  refine wpAnyH_take (i := 10) (v := ?_) rfl (by kernel_rfl) (by kernel_rfl) (by kernel_rfl) (fun _ _ _ h => h) (Or.inl ⟨by rfl, ?_⟩) (Below.refl _ _) ?_
  rotate_left
  · intro wS hSw
    go_simp
    try with_reducible rfl
  try simp only [List.getElem_toArray, List.getElem_cons_zero, List.getElem_cons_succ, Act.put, List.setIfInBounds_toArray, List.set_cons_zero, List.set_cons_succ]
  refine wpAnyH_take (i := 11) (v := ?_) rfl (by kernel_rfl) (by kernel_rfl) (by kernel_rfl) (fun _ _ _ h => h) (Or.inl ⟨by rfl, ?_⟩) (Below.refl _ _) ?_
  rotate_left
  · intro wS hSw
    go_simp
    try with_reducible rfl
  try simp only [List.getElem_toArray, List.getElem_cons_zero, List.getElem_cons_succ, Act.put, List.setIfInBounds_toArray, List.set_cons_zero, List.set_cons_succ]
  refine wpAnyH_take (i := 12) (v := ?_) rfl (by kernel_rfl) (by kernel_rfl) (by kernel_rfl) (fun _ _ _ h => h) (Or.inl ⟨by rfl, ?_⟩) (Below.refl _ _) ?_
  rotate_left
  · intro wS hSw
    have hcv := ((hSw.cell (p := rad.add (cols + j)) (by exact l5)).trans hbyte)
    go_simp
    try with_reducible rfl
  try simp only [List.getElem_toArray, List.getElem_cons_zero, List.getElem_cons_succ, Act.put, List.setIfInBounds_toArray, List.set_cons_zero, List.set_cons_succ]
  refine wpAnyH_take (i := 13) (v := ?_) rfl (by kernel_rfl) (by kernel_rfl) (by kernel_rfl) (fun _ _ _ h => h) (Or.inl ⟨by rfl, ?_⟩) (Below.refl _ _) ?_
  rotate_left
  · intro wS hSw
    go_simp
    try with_reducible rfl
  try simp only [List.getElem_toArray, List.getElem_cons_zero, List.getElem_cons_succ, Act.put, List.setIfInBounds_toArray, List.set_cons_zero, List.set_cons_succ]
  refine wpAnyH_done (by kernel_rfl) ?_ _
  go_wp2
  go_ret
  exact ⟨rfl, below_drewN (Below.refl W.heap.size W) 1⟩
end Cib
