/- The reader of records: part, fail, number, key, flag. -/
import Derived.Test.YtmabmhiombnngaaFrmN
import Derived.Test.YtmabmhiombnngaaNumT
set_option linter.unusedVariables false
set_option linter.unusedSimpArgs false
set_option maxRecDepth 40000
namespace Cib
open Go Go.RowKit Go.Proofs
/-- The reader in memory. -/
def RdI (g : Nat) (A : Option Addr) (n c : Nat) (st : Frm.St) (W : World) : Prop := Blk W g 68 #[.slice A n c, .int .i64 st.1, .int .i64 (st.2 : Int)]
/-- All that was there, but one block, stays as it is. -/
structure But (g : Nat) (W W' : World) : Prop where
  bel : ∀ B a, B ≤ g → Below B a W → Below B a W'
  oth : ∀ k, k < W.heap.size → k ≠ g → W'.heap[k]? = W.heap[k]?
  size : W.heap.size ≤ W'.heap.size
section
variable {g : Nat} {W W' W'' : World}
theorem But.refl (g : Nat) (W : World) : But g W W := ⟨fun _ _ _ h => h, fun _ _ _ => rfl, Nat.le_refl _⟩
theorem But.trans (h : But g W W') (h' : But g W' W'') : But g W W'' := ⟨fun B a hB hb => h'.bel B a hB (h.bel B a hB hb), fun k hk hg => (h'.oth k (Nat.lt_of_lt_of_le hk h.size) hg).trans (h.oth k hk hg), Nat.le_trans h.size h'.size⟩
theorem But.below (hb : Below W.heap.size W W') (hg : g < W.heap.size) : But g W W' := ⟨fun B a hB h => h.trans (hb.mono (by omega)), fun k hk _ => hb.block k hk, hb.size⟩
theorem But.set (g i : Nat) (W : World) (v : Value) : But g W (W.setCell ⟨g, i, none⟩ v) := ⟨fun B a hB h => h.setCell hB v, fun k _ hg => heap_setCell_other W _ k v hg, by rw [World.size_setCell]; exact Nat.le_refl _⟩
theorem But.drewN (g : Nat) (W : World) (q : Nat) : But g W (W.drewN q) := ⟨fun B a hB h => below_drewN h q, fun k _ hg => rfl, Nat.le_refl _⟩
theorem Blk.but {k : Nat} {t cs} (h : Blk W k t cs) (hb : But g W W') (hk : k ≠ g) : Blk W' k t cs := (hb.oth k h.lt hk).trans h
theorem own_but {B sz n : Nat} {e : TypeId} {v : Value} {xs : List Value} (h : W.ownsRow B e sz v n xs) (hb : But g W W') (hg : g < B) : W'.ownsRow B e sz v n xs :=
  own_from h fun k hk hs => hb.oth k hs (by omega)
theorem RdI.below {A : Option Addr} {n c : Nat} {st : Frm.St} (h : RdI g A n c st W) (hb : Below W.heap.size W W') : RdI g A n c st W' := Blk.below (B := W.heap.size) h hb (Blk.lt h)
end
theorem frmPart0 (fn : Nat) (caps : Array Value) (g : Nat) (A : Option Addr) (n c : Nat) (st : Frm.St) (w : World) (h : RdI g A n c st w) (h0 : st.2 ≠ 0) :
    Calls Try.prog 39 #[.pointer (some ⟨g, 0, none⟩), .func (.func fn) #[] caps] w fun e W' => e = .returned (.tuple #[]) ∧ W' = w := by
  have he := Blk.cell h 2
  simp only [List.getElem?_toArray, List.getElem?_cons_zero, List.getElem?_cons_succ] at he
  have hq : ((st.2 : Int) != 0) = true := by simpa using h0
  clear h h0
  go_enter Try.func39, Try.ntmps39
  go_wp2
  first | go_end0 | refine bodyPost_ret (results_none rfl _ _ _) rfl ?_
  exact ⟨rfl, rfl⟩
set_option maxHeartbeats 1000000 in
theorem frmPart (fn : Nat) (caps : Array Value) (g : Nat) (A : Option Addr) (n c : Nat) (a : Int) (p : Int) (q : Nat) (w : World) (R : World → Prop) (hent : ∀ (a : Array Value) (W : World), (callFunc fn a).run Try.prog W = .ok (.enter fn a) W) (h : RdI g A n c (a, 0) w)
    (H : Calls Try.prog fn (#[.slice A n c, .int .i64 a] ++ caps) w.drew fun e W' => e = .returned (.tuple #[.int .i64 p, .int .i64 (q : Int)]) ∧ RdI g A n c (a, 0) W' ∧ R W') :
    Calls Try.prog 39 #[.pointer (some ⟨g, 0, none⟩), .func (.func fn) #[] caps] w fun e W' => e = .returned (.tuple #[]) ∧ ∃ W1, R W1 ∧ But g W1 W' ∧ RdI g A n c (if q = 0 then (p, 0) else (a, q)) W' := by
  have he := Blk.cell h 2
  simp only [List.getElem?_toArray, List.getElem?_cons_zero, List.getElem?_cons_succ] at he
  have HX : Hid (Blk w.drew g 68 #[.slice A n c, .int .i64 a, .int .i64 ((0 : Nat) : Int)]) := Lib.hid h
  have HH := Lib.hid H
  clear h H
  go_enter Try.func39, Try.ntmps39
  go_wp2
  refine wp_region_held_drew (S := (fun wQq => Blk wQq g 68 #[.slice A n c, .int .i64 a, .int .i64 ((0 : Nat) : Int)])) (by kernel_rfl) (HX.out) (fun _ => ?_)
  refine wpAnyH_take (i := 0) (v := ?_) rfl (by kernel_rfl) (by kernel_rfl) (by kernel_rfl) (fun _ _ _ h => h) (Or.inl ⟨by rfl, ?_⟩) (HX.out) ?_
  rotate_left
  · intro wS hSw
    go_simp
    try with_reducible rfl
  try simp only [List.getElem_toArray, List.getElem_cons_zero, List.getElem_cons_succ, Act.put, List.setIfInBounds_toArray, List.set_cons_zero, List.set_cons_succ]
  refine wpAnyH_take (i := 1) (v := ?_) rfl (by kernel_rfl) (by kernel_rfl) (by kernel_rfl) (fun _ _ _ h => h) (Or.inl ⟨by rfl, ?_⟩) (HX.out) ?_
  rotate_left
  · intro wS hSw
    go_simp
    try with_reducible rfl
  try simp only [List.getElem_toArray, List.getElem_cons_zero, List.getElem_cons_succ, Act.put, List.setIfInBounds_toArray, List.set_cons_zero, List.set_cons_succ]
  refine wpAnyH_take (i := 2) (v := ?_) rfl (by kernel_rfl) (by kernel_rfl) (by kernel_rfl) (fun _ _ _ h => h) (Or.inl ⟨by rfl, ?_⟩) (HX.out) ?_
  rotate_left
  · intro wS hSw
    go_simp
    try with_reducible rfl
  try simp only [List.getElem_toArray, List.getElem_cons_zero, List.getElem_cons_succ, Act.put, List.setIfInBounds_toArray, List.set_cons_zero, List.set_cons_succ]
  refine wpAnyH_take (i := 3) (v := ?_) rfl (by kernel_rfl) (by kernel_rfl) (by kernel_rfl) (fun _ _ _ h => h) (Or.inl ⟨by rfl, ?_⟩) (HX.out) ?_
  rotate_left
  · intro wS hSw
    go_simp
    try with_reducible rfl
  try simp only [List.getElem_toArray, List.getElem_cons_zero, List.getElem_cons_succ, Act.put, List.setIfInBounds_toArray, List.set_cons_zero, List.set_cons_succ]
  refine wpAnyH_take (i := 5) (v := ?_) rfl (by kernel_rfl) (by kernel_rfl) (by kernel_rfl) (fun _ _ _ h => h) (Or.inl ⟨by rfl, ?_⟩) (HX.out) ?_
  rotate_left
  · intro wS hSw
    go_simp
    try with_reducible rfl
  try simp only [List.getElem_toArray, List.getElem_cons_zero, List.getElem_cons_succ, Act.put, List.setIfInBounds_toArray, List.set_cons_zero, List.set_cons_succ]
  refine wpAnyH_take (i := 6) (v := ?_) rfl (by kernel_rfl) (by kernel_rfl) (by kernel_rfl) (fun _ _ _ h => h) (Or.inl ⟨by rfl, ?_⟩) (HX.out) ?_
  rotate_left
  · intro wS hSw
    go_simp
    try with_reducible rfl
  try simp only [List.getElem_toArray, List.getElem_cons_zero, List.getElem_cons_succ, Act.put, List.setIfInBounds_toArray, List.set_cons_zero, List.set_cons_succ]
  refine wpAnyH_take (i := 7) (v := ?_) rfl (by kernel_rfl) (by kernel_rfl) (by kernel_rfl) (fun _ _ _ h => h) (Or.inl ⟨by rfl, ?_⟩) (HX.out) ?_
  rotate_left
  · intro wS hSw
    go_simp
    try with_reducible rfl
  try simp only [List.getElem_toArray, List.getElem_cons_zero, List.getElem_cons_succ, Act.put, List.setIfInBounds_toArray, List.set_cons_zero, List.set_cons_succ]
  refine wpAnyH_take (i := 4) (v := ?_) rfl (by kernel_rfl) (by kernel_rfl) (by kernel_rfl) (fun _ _ _ h => h) (Or.inl ⟨by rfl, ?_⟩) (HX.out) ?_
  rotate_left
  · intro wS hSw
    have hcv := hSw.cell 0
    go_simp
    try with_reducible rfl
  try simp only [List.getElem_toArray, List.getElem_cons_zero, List.getElem_cons_succ, Act.put, List.setIfInBounds_toArray, List.set_cons_zero, List.set_cons_succ]
  refine wpAnyH_take (i := 8) (v := ?_) rfl (by kernel_rfl) (by kernel_rfl) (by kernel_rfl) (fun _ _ _ h => h) (Or.inl ⟨by rfl, ?_⟩) (HX.out) ?_
  rotate_left
  · intro wS hSw
    have hcv := hSw.cell 1
    go_simp
    try with_reducible rfl
  try simp only [List.getElem_toArray, List.getElem_cons_zero, List.getElem_cons_succ, Act.put, List.setIfInBounds_toArray, List.set_cons_zero, List.set_cons_succ]
  refine wpAnyH_ready (rs := [9]) (by kernel_rfl) (by simp) ?_
  refine AllReadyH.cons rfl (fun K hK => ?_) AllReadyH.nil
  go_simp
  refine HH.out.mono ?_
  rintro e w5 ⟨rfl, hx5, hr5⟩
  have HX5 := Lib.hid hx5
  have HR5 := Lib.hid hr5
  unfold RdI at HX5
  clear hx5 hr5
  refine hK.out _ _ HX5.out (fun _ => ?_)
  clear hK K
  try simp only [List.getElem_toArray, List.getElem_cons_zero, List.getElem_cons_succ, Act.put, List.setIfInBounds_toArray, List.set_cons_zero, List.set_cons_succ]
  refine wpAnyH_take (i := 10) (v := ?_) rfl (by kernel_rfl) (by kernel_rfl) (by kernel_rfl) (fun _ _ _ h => h) (Or.inl ⟨by rfl, ?_⟩) HX5.out ?_
  rotate_left
  · intro wS hSw
    go_simp
    try with_reducible rfl
  try simp only [List.getElem_toArray, List.getElem_cons_zero, List.getElem_cons_succ, Act.put, List.setIfInBounds_toArray, List.set_cons_zero, List.set_cons_succ]
  refine wpAnyH_take (i := 11) (v := ?_) rfl (by kernel_rfl) (by kernel_rfl) (by kernel_rfl) (fun _ _ _ h => h) (Or.inl ⟨by rfl, ?_⟩) HX5.out ?_
  rotate_left
  · intro wS hSw
    go_simp
    try with_reducible rfl
  try simp only [List.getElem_toArray, List.getElem_cons_zero, List.getElem_cons_succ, Act.put, List.setIfInBounds_toArray, List.set_cons_zero, List.set_cons_succ]
  refine wpAnyH_take (i := 12) (v := ?_) rfl (by kernel_rfl) (by kernel_rfl) (by kernel_rfl) (fun _ _ _ h => h) (Or.inl ⟨by rfl, ?_⟩) HX5.out ?_
  rotate_left
  · intro wS hSw
    go_simp
    try with_reducible rfl
  try simp only [List.getElem_toArray, List.getElem_cons_zero, List.getElem_cons_succ, Act.put, List.setIfInBounds_toArray, List.set_cons_zero, List.set_cons_succ]
  refine wpAnyH_take (i := 13) (v := ?_) rfl (by kernel_rfl) (by kernel_rfl) (by kernel_rfl) (fun _ _ _ h => h) (Or.inl ⟨by rfl, ?_⟩) HX5.out ?_
  rotate_left
  · intro wS hSw
    go_simp
    try with_reducible rfl
  try simp only [List.getElem_toArray, List.getElem_cons_zero, List.getElem_cons_succ, Act.put, List.setIfInBounds_toArray, List.set_cons_zero, List.set_cons_succ]
  refine wpAnyH_take (i := 14) (v := ?_) rfl (by kernel_rfl) (by kernel_rfl) (by kernel_rfl) (fun _ _ _ h => h) (Or.inl ⟨by rfl, ?_⟩) HX5.out ?_
  rotate_left
  · intro wS hSw
    go_simp
    try with_reducible rfl
  try simp only [List.getElem_toArray, List.getElem_cons_zero, List.getElem_cons_succ, Act.put, List.setIfInBounds_toArray, List.set_cons_zero, List.set_cons_succ]
  refine wpAnyH_done (by kernel_rfl) ?_ _
  have hf2 := HX5.out.frozen 2
  have hf1 := HX5.out.frozen 1
  have hc2 := HX5.out.cell 2
  have hc1 := HX5.out.cell 1
  simp only [List.getElem?_toArray, List.getElem?_cons_zero, List.getElem?_cons_succ] at hc1 hc2
  by_cases h0 : q = 0
  · subst h0
    have HE : Hid (RdI g A n c (p, 0) ((w5.setCell ⟨g, 2, none⟩ (.int .i64 ((0 : Nat) : Int))).setCell ⟨g, 1, none⟩ (.int .i64 p))) := Lib.hid ((HX5.out.set 2 _).set 1 _)
    have HB : Hid (But g w5 ((w5.setCell ⟨g, 2, none⟩ (.int .i64 ((0 : Nat) : Int))).setCell ⟨g, 1, none⟩ (.int .i64 p))) := Lib.hid ((But.set _ _ _ _).trans (But.set _ _ _ _))
    go_wp2
    first | go_end0 | refine bodyPost_ret (results_none rfl _ _ _) rfl ?_
    exact ⟨rfl, w5, HR5.out, HB.out, HE.out⟩
  · have hq : ((q : Int) == 0) = false := by simpa using h0
    have HE : Hid (RdI g A n c (a, q) (w5.setCell ⟨g, 2, none⟩ (.int .i64 (q : Int)))) := Lib.hid (HX5.out.set 2 _)
    have HB : Hid (But g w5 (w5.setCell ⟨g, 2, none⟩ (.int .i64 (q : Int)))) := Lib.hid (But.set _ _ _ _)
    go_wp2
    first | go_end0 | refine bodyPost_ret (results_none rfl _ _ _) rfl ?_
    exact ⟨rfl, w5, HR5.out, HB.out, HE.out⟩
theorem frmFail (g : Nat) (A : Option Addr) (n c : Nat) (st : Frm.St) (bad : Bool) (x : Nat) (w : World) (h : RdI g A n c st w) :
    Calls Try.prog 28 #[.pointer (some ⟨g, 0, none⟩), .bool bad, .int .i64 (x : Int)] w fun e W' => e = .returned (.tuple #[]) ∧ But g w W' ∧ RdI g A n c (Frm.fail bad x st) W' := by
  have he := Blk.cell h 2
  have hf := Blk.frozen h 2
  simp only [List.getElem?_toArray, List.getElem?_cons_zero, List.getElem?_cons_succ] at he
  have HX := Lib.hid h
  unfold Frm.fail
  clear h
  by_cases h0 : bad = true ∧ st.2 = 0
  · obtain ⟨rfl, h0⟩ := h0
    obtain ⟨a, q⟩ := st
    simp only at h0
    subst h0
    have HE : Hid (RdI g A n c (a, x) (w.setCell ⟨g, 2, none⟩ (.int .i64 (x : Int)))) := Lib.hid (Blk.set HX.out 2 _)
    have HB : Hid (But g w (w.setCell ⟨g, 2, none⟩ (.int .i64 (x : Int)))) := Lib.hid (But.set _ _ _ _)
    go_enter Try.func28, Try.ntmps28
    go_wp2
    first | go_end0 | refine bodyPost_ret (results_none rfl _ _ _) rfl ?_
    exact ⟨rfl, HB.out, HE.out⟩
  · rw [if_neg h0]
    cases bad
    · clear h0
      go_enter Try.func28, Try.ntmps28
      go_wp2
      first | go_end0 | refine bodyPost_ret (results_none rfl _ _ _) rfl ?_
      exact ⟨rfl, But.refl _ _, HX.out⟩
    · have hq : ((st.2 : Int) == 0) = false := by simpa using h0
      clear h0
      go_enter Try.func28, Try.ntmps28
      go_wp2
      first | go_end0 | refine bodyPost_ret (results_none rfl _ _ _) rfl ?_
      exact ⟨rfl, But.refl _ _, HX.out⟩
end Cib
