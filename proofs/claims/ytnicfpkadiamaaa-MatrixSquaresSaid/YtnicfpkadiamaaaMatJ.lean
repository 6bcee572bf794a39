/- Invert and Rank. -/
import Derived.Test.YtnicfpkadiamaaaMatI
set_option linter.unusedVariables false
set_option linter.unusedSimpArgs false
set_option maxRecDepth 40000
namespace Cib
open Go Go.RowKit Go.Proofs
/-- What Invert answers of a square matrix. -/
def InvR (g n : Nat) (bs : List UInt8) (w : World) (e : Ending) (w' : World) : Prop :=
  (∃ X, Lin.Inv n (Lin.fl n bs) (Lin.fl n X) ∧ NewM g n n X w e w') ∨ ∃ r, r < n ∧ Lin.Rk n n (Lin.fl n bs) r ∧ NoM g 40 w e w'
set_option maxHeartbeats 4000000 in
theorem matInvert (g n : Nat) (A : Option Addr) (k : Nat) (bs : List UInt8) (w : World) (h : Fld w g) (hr : Rd w w.heap.size A (bs.map bv)) (hg : ∀ ad, A = some ad → ad.block ≠ g) (hbs : bs.length = n * n) (hk : n * n ≤ k) (hn1 : 1 ≤ n) (hn2 : n ≤ 255) :
    Calls Try.prog 12 #[.pointer (some ⟨g, 0, none⟩), .agg (mv n n A (n * n) k)] w (InvR g n bs w) := by
  have hz : Below w.heap.size w ((w.alloc (.cells (mv n n A (n * n) k) 24)).alloc (.cells (mv 0 0 none 0 0) 24)) := ((Below.refl _ _).alloc (Nat.le_refl _) _).alloc (by simp) _
  have hnn : n * n ≤ 65025 := Nat.mul_le_mul hn2 hn2
  have hmr : mr (n : Int) (n : Int) (n * n) = true := mr_true.2 ⟨by omega, by omega, by simp⟩
  have HIW := Lib.hid (InvW.new w n n A (n * n) k)
  have HFA := Lib.hid (h.on hz)
  have HGL := Lib.hid h.lt
  have HZ := Lib.hid hz
  have HRI := Lib.hid fun W => matRight n n A (n * n) k (by omega) W
  rw [hmr] at HRI
  have HRD := Lib.hid hr
  have HHG := Lib.hid hg
  have HBS := Lib.hid hbs
  have HKK := Lib.hid hk
  obtain ⟨T, hT⟩ : ∃ T, n * n = T := ⟨_, rfl⟩
  have HT := Lib.hid hT
  rw [hT] at HRI HFA HZ HIW hk hnn ⊢
  clear h hz hr hg hbs hmr hT
  unfold mv at HRI HFA HZ ⊢
  go_enter Try.func12, Try.ntmps12
  go_wp2_with fail
  refine (matNobody g _ HFA.out).mono ?_
  rintro e w1 ⟨rfl, ha⟩
  have HS1 := Lib.hid (ha.stp2 HZ.out)
  have HI1 := Lib.hid (HIW.out.aft ha HGL.out)
  have m0 := HI1.out.m.cell 0
  have m1 := HI1.out.m.cell 1
  have m2 := HI1.out.m.cell 2
  unfold mv at m0 m1 m2
  simp only [List.getElem?_toArray, List.getElem?_cons_zero, List.getElem?_cons_succ] at m0 m1 m2
  clear ha HFA HIW HZ
  go_wp2_with fail
  refine (HRI.out _).mono ?_
  rintro e w2 ⟨rfl, hb2⟩
  have HI2 := Lib.hid (HI1.out.below hb2)
  have HS2 := Lib.hid (HS1.out.via hb2)
  have n0 := HI2.out.m.cell 0
  have n1 := HI2.out.m.cell 1
  have n2 := HI2.out.m.cell 2
  unfold mv at n0 n1 n2
  simp only [List.getElem?_toArray, List.getElem?_cons_zero, List.getElem?_cons_succ] at n0 n1 n2
  clear hb2 m0 m1 m2 HI1 HS1 HRI
  have HBG := Lib.hid (matBegunT g n n A T k bs w2 HS2.out.full ((HS2.out.rd HRD.out (Nat.le_refl _) HHG.out).more HS2.out.size) HBS.out HT.out.symm hk hn1 hn2 hn2)
  unfold BegR mv at HBG
  go_wp2_with fail
  refine HBG.out.mono ?_
  rintro e w3 ⟨gw, gr, cc, L, rfl, hK3, hL3, hb3⟩
  simp only [if_true] at hK3
  have HI3 := Lib.hid (HI2.out.below hb3)
  have HL3 := Lib.hid hL3
  have hal : Below w3.heap.size w3 (w3.alloc (.cells #[.pointer (some ⟨gw, 0, none⟩)] 69)) := (Below.refl _ _).alloc (Nat.le_refl _) _
  have HK4 := Lib.hid (hK3.via hal)
  have HI4 := Lib.hid (HI3.out.below hal)
  have HB4 := Lib.hid (Blk.new w3 69 #[.pointer (some ⟨gw, 0, none⟩)])
  have hz3 : w.heap.size + 1 < w3.heap.size := HI3.out.z.lt
  have HGB := Lib.hid HS2.out.size
  clear hK3 hL3 hb3 n0 n1 n2 HBG HI2 HI3
  go_upto_region 6 with fail
  generalize hw4 : w3.alloc _ = w4 at *
  generalize hg6 : w3.heap.size = g6 at *
  clear hw4 hg6 hal
  have hP0 : w4.drew.cell? ⟨g6, 0, none⟩ = some (.pointer (some ⟨gw, 0, none⟩)) ∧ w4.drew.cell? ⟨w.heap.size, 0, none⟩ = some (.int .i64 (n : Int)) ∧ w4.drew.cell? ⟨w.heap.size, 1, none⟩ = some (.int .i64 (n : Int)) := ⟨HB4.out.cell 0, HI4.out.m.cell 0, HI4.out.m.cell 1⟩
  have HP0 := Lib.hid hP0
  clear hP0
  refine wp_region_held_drew (S := (fun wQq => wQq.cell? ⟨g6, 0, none⟩ = some (.pointer (some ⟨gw, 0, none⟩)) ∧ wQq.cell? ⟨w.heap.size, 0, none⟩ = some (.int .i64 (n : Int)) ∧ wQq.cell? ⟨w.heap.size, 1, none⟩ = some (.int .i64 (n : Int)))) (by kernel_rfl) (HP0.out) (fun _ => ?_)
  refine wpAnyH_take (i := 1) (v := ?_) rfl (by kernel_rfl) (by kernel_rfl) (by kernel_rfl) (fun _ _ _ h => h) (Or.inl ⟨by rfl, ?_⟩) (HP0.out) ?_
  rotate_left
  · intro wS hSw
    go_simp
    try with_reducible rfl
  try simp only [List.getElem_toArray, List.getElem_cons_zero, List.getElem_cons_succ, Act.put, List.setIfInBounds_toArray, List.set_cons_zero, List.set_cons_succ]
  refine wpAnyH_take (i := 4) (v := ?_) rfl (by kernel_rfl) (by kernel_rfl) (by kernel_rfl) (fun _ _ _ h => h) (Or.inl ⟨by rfl, ?_⟩) (HP0.out) ?_
  rotate_left
  · intro wS hSw
    go_simp
    try with_reducible rfl
  try simp only [List.getElem_toArray, List.getElem_cons_zero, List.getElem_cons_succ, Act.put, List.setIfInBounds_toArray, List.set_cons_zero, List.set_cons_succ]
  refine wpAnyH_take (i := 0) (v := ?_) rfl (by kernel_rfl) (by kernel_rfl) (by kernel_rfl) (fun _ _ _ h => h) (Or.inl ⟨by rfl, ?_⟩) (HP0.out) ?_
  rotate_left
  · intro wS hSw
    have hcv := hSw.1
    go_simp
    try with_reducible rfl
  try simp only [List.getElem_toArray, List.getElem_cons_zero, List.getElem_cons_succ, Act.put, List.setIfInBounds_toArray, List.set_cons_zero, List.set_cons_succ]
  refine wpAnyH_take (i := 2) (v := ?_) rfl (by kernel_rfl) (by kernel_rfl) (by kernel_rfl) (fun _ _ _ h => h) (Or.inl ⟨by rfl, ?_⟩) (HP0.out) ?_
  rotate_left
  · intro wS hSw
    have hcv := hSw.2.2
    go_simp
    try with_reducible rfl
  try simp only [List.getElem_toArray, List.getElem_cons_zero, List.getElem_cons_succ, Act.put, List.setIfInBounds_toArray, List.set_cons_zero, List.set_cons_succ]
  refine wpAnyH_take (i := 5) (v := ?_) rfl (by kernel_rfl) (by kernel_rfl) (by kernel_rfl) (fun _ _ _ h => h) (Or.inl ⟨by rfl, ?_⟩) (HP0.out) ?_
  rotate_left
  · intro wS hSw
    have hcv := hSw.2.1
    go_simp
    try with_reducible rfl
  try simp only [List.getElem_toArray, List.getElem_cons_zero, List.getElem_cons_succ, Act.put, List.setIfInBounds_toArray, List.set_cons_zero, List.set_cons_succ]
  refine wpAnyH_ready (rs := [3]) (by kernel_rfl) (by simp) ?_
  refine AllReadyH.cons rfl (fun K hK => ?_) AllReadyH.nil
  go_simp
  refine (matElim (HK4.out.via (below_drewN (Below.refl _ _) 1)) n (by omega) (by omega) (by omega)).mono ?_
  rintro e w5 ⟨r, L5, rfl, hK5, hE5, hS5⟩
  have HK5 := Lib.hid hK5
  have HE5 := Lib.hid hE5
  have HB5 := Lib.hid (Blk.same (w := w4.drewN 1) HB4.out hS5 (by decide))
  have HM5 := Lib.hid (Blk.same (w := w4.drewN 1) HI4.out.m hS5 (by decide))
  have HZ5 := Lib.hid (Blk.same (w := w4.drewN 1) HI4.out.z hS5 (by decide))
  have HP5 : Hid (w5.cell? ⟨g6, 0, none⟩ = some (.pointer (some ⟨gw, 0, none⟩)) ∧ w5.cell? ⟨w.heap.size, 0, none⟩ = some (.int .i64 (n : Int)) ∧ w5.cell? ⟨w.heap.size, 1, none⟩ = some (.int .i64 (n : Int))) := Lib.hid ⟨HB5.out.cell 0, HM5.out.cell 0, HM5.out.cell 1⟩
  clear hK5 hE5 hS5
  refine hK.out _ _ HP5.out (fun _ => ?_)
  clear hK K
  try simp only [List.getElem_toArray, List.getElem_cons_zero, List.getElem_cons_succ, Act.put, List.setIfInBounds_toArray, List.set_cons_zero, List.set_cons_succ]
  refine wpAnyH_take (i := 6) (v := ?_) rfl (by kernel_rfl) (by kernel_rfl) (by kernel_rfl) (fun _ _ _ h => h) (Or.inl ⟨by rfl, ?_⟩) HP5.out ?_
  rotate_left
  · intro wS hSw
    go_simp
    try with_reducible rfl
  try simp only [List.getElem_toArray, List.getElem_cons_zero, List.getElem_cons_succ, Act.put, List.setIfInBounds_toArray, List.set_cons_zero, List.set_cons_succ]
  refine wpAnyH_done (by kernel_rfl) ?_ _
  have HS5 := Lib.hid (HS2.out.via HK5.out.dat.below)
  have hz5 := HZ5.out
  have HFIN := Lib.hid fun (W : World) (M : Array Value) (e : W = w5.setRow (w.heap.size + 1) M) => (⟨by subst e; exact hz5.row _, by subst e; exact HS5.out.setRow (by omega) (by have := HGL.out; omega) _⟩ : Blk W (w.heap.size + 1) 24 M ∧ Stp g w W)
  have HRE : Hid (Lin.Rk n n (Lin.fl n bs) r) := Lib.hid ((HE5.out.rank (by omega)).congr fun i k hi hk => by rw [HL3.out]; exact Lin.begunL_ent HBS.out true hi hk)
  clear HP0 HK4 HB4 HI4
  by_cases hrn : r < n
  · have HRN := Lib.hid hrn
    clear HK5 HE5 HB5 HM5 HL3
    go_wp2_with (refine wpList_store_row rfl 24 (.tmp 4) (.tmp 33) rfl (w.heap.size + 1) (mv 0 0 none 0 0) rfl rfl 24 (mv 0 0 none 0 0) hz5 matInfo3 rfl (mv_one _ _ _ _ _) ?_)
    refine bodyPost_ret (results_mat2 (g := w.heap.size + 1) (te := 24) (cs := mv 0 0 none 0 0) (fr := (0, 0)) rfl _ _ _ rfl (HFIN.out _ _ rfl).1 Try.underlying24 rfl matInfo3) rfl (.inr ⟨r, HRN.out, HRE.out, rfl, (HFIN.out _ _ rfl).2⟩)
  · have hrle := HE5.out.rle
    obtain rfl : n = r := by omega
    have hrd : decide ((n : Int) < (n : Int)) = false := by simp
    have hm0 := HM5.out.cell 0
    have hm1 := HM5.out.cell 1
    unfold mv at hm0 hm1
    simp only [List.getElem?_toArray, List.getElem?_cons_zero, List.getElem?_cons_succ] at hm0 hm1
    have HIN : Hid (Lin.Inv n (Lin.fl n bs) (Lin.fl n (tabN n (fun i j => Lin.ent (bsL L5) i (n + j)) (n * n)))) := Lib.hid ((HE5.out.inv fun i k hi hk => by rw [HL3.out]; exact Lin.begunL_unit HBS.out hi hk).congr (fun i k hi hk => by rw [HL3.out]; exact (Lin.begunL_ent HBS.out true hi hk).symm) (fun i k hi hk => Lin.fl_tabRC hi hk))
    clear hrn hrle HE5 HL3 HRE
    have HFI := Lib.hid (matFilled 33 #[.pointer (some ⟨g6, 0, none⟩), .pointer (some ⟨w.heap.size, 0, none⟩)] n n hn2 hn2 (fun i j => Lin.ent (bsL L5) i (n + j)) w5 (fun a W => by go_simp) (fun i j hi hj W hW =>
      matInvCell (HK5.out.via hW) g6 w.heap.size n i j n A T k ((HB5.out.below hW HB5.out.lt).cell 0) (HM5.out.below hW HM5.out.lt) hi (by omega) (by omega) (by omega)))
    rw [HT.out] at HFI
    unfold mv at HFI
    go_wp2_with fail
    refine HFI.out.mono ?_
    rintro e w6 ⟨A6, c6, rfl, ho6, hb6⟩
    have hz6 := hz5.below hb6 hz5.lt
    have HO6 := Lib.hid ho6
    have HS6 := Lib.hid (HS5.out.via hb6)
    have HSZ := Lib.hid HS5.out.size
    have HFI2 := Lib.hid fun (W : World) (M : Array Value) (e : W = w6.setRow (w.heap.size + 1) M) => (⟨by subst e; exact hz6.row _, by subst e; exact HS6.out.setRow (by omega) (by have := HGL.out; omega) _⟩ : Blk W (w.heap.size + 1) 24 M ∧ Stp g w W)
    have hlt6 : w.heap.size + 1 < w5.heap.size := hz5.lt
    clear ho6 hb6 hz5 HFI HFIN hm0 hm1 HK5 HB5 HM5
    go_wp2_with (refine wpList_store_row rfl 24 (.tmp 4) (.tmp 39) rfl (w.heap.size + 1) (mv n n A6 T c6) rfl rfl 24 (mv 0 0 none 0 0) hz6 matInfo3 rfl (mv_one _ _ _ _ _) ?_)
    refine bodyPost_ret (results_mat2 (g := w.heap.size + 1) (te := 24) (cs := mv n n A6 T c6) (fr := (0, 0)) rfl _ _ _ rfl (HFI2.out _ _ rfl).1 Try.underlying24 rfl matInfo3) rfl (.inl ⟨_, HIN.out, A6, c6, (by rw [HT.out]; rfl), tabN_length _ _ _, ?_, (HFI2.out _ _ rfl).2⟩)
    rw [HT.out]
    have ho := HO6.out
    refine own_setRow (own_lowerB ho HSZ.out) (fun he => ?_) _
    have := (ho.lt _ he).1
    omega
end Cib
