/- Copy. -/
import Derived.Test.YtagnckiikljhkaaVrdG
set_option linter.unusedVariables false
set_option linter.unusedSimpArgs false
set_option maxRecDepth 20000
namespace Vrd
/-- what has been copied when 'left' tells whose turn is still to come -/
def copied (f : Mem) (left : ByteArray → Bool) : Mem := fun k => if left k then none else f k
/-- what is left when those whose turn has come have been looked at -/
def swept (f : Mem) (horizon : Nat) (left : ByteArray → Bool) : Mem := fun k => if left k then f k else (f k).filter fun s => decide (horizon < s)
end Vrd
namespace Cib
open Go Go.RowKit Go.Proofs Go.Maps Go.WideMaps
variable {w w' w1 : World} {b r N cnt base g last n c : Nat} {f : Vrd.Mem} {left : Lit → Bool} {rows : List (Nat × Value)} {A : Option Addr}
theorem copied_start (h : ∀ s, left (kl s) = (f s).isSome) : Vrd.copied f (fun s => left (kl s)) = Vrd.none_ := by
  funext k
  unfold Vrd.copied Vrd.none_
  simp only [h]
  cases f k <;> simp
theorem copied_step {s : ByteArray} {v : Nat} (hf : f s = some v) : Vrd.note (Vrd.copied f fun k => left (kl k)) v [s] = Vrd.copied f fun k => struck left s (kl k) := by
  funext k
  unfold Vrd.note Vrd.copied
  by_cases e : k = s
  · subst e
    rw [if_pos (List.mem_singleton.2 rfl)]
    simp only [struck_same, Bool.false_eq_true, if_false, hf]
  · rw [if_neg (by simpa using e)]
    simp only [struck_other left e]
theorem copied_end (h : ∀ z, left z = false) : Vrd.copied f (fun s => left (kl s)) = f := by
  funext k
  unfold Vrd.copied
  simp only [h, Bool.false_eq_true, if_false]
theorem noteCells_one {rows : List (Nat × Value)} (h : ∀ x ∈ rows, x.2.oneCell' = true) : ∀ u ∈ noteCells rows, u.oneCell' = true := by
  intro u hu
  unfold noteCells at hu
  obtain ⟨l, hl, hm⟩ := List.mem_flatten.1 hu
  obtain ⟨x, hx, rfl⟩ := List.mem_map.1 hl
  simp at hm
  rcases hm with rfl | rfl
  · rfl
  · exact h x hx
/-- In the loop of Copy. -/
structure CpI (w : World) (base g : Nat) (rows : List (Nat × Value)) (last N : Nat) (f : Vrd.Mem) (A : Option Addr) (n c b g2 b2 r : Nat) (A2 : Option Addr) (c2 : Nat) (left : Lit → Bool) (cnt : Nat) (wr : World) : Prop where
  blk : Blk wr g 49 #[.slice A n c, .map (some b), .int .u64 (last : Int)]
  blk2 : Blk wr g2 49 #[.slice A2 n c2, .map (some b2), .int .u64 (last : Int)]
  own2 : wr.ownsRow w.heap.size 54 2 (.slice A2 n c2) n (noteCells rows)
  rg : RgV wr b r N f left cnt
  map2 : MapIs wr b2 (N - cnt) (Vrd.copied f fun s => left (kl s))
  hc : cnt ≤ N
  below : Below w.heap.size w wr
set_option maxHeartbeats 2000000 in
theorem vdCopy (h : Vd w base g rows last N f A n c b) (hrow : ∀ x ∈ rows, x.2.oneCell' = true) (hn : n ≤ 65536) (hN : N ≤ 65536) :
    Calls Try.prog 13 #[.pointer (some ⟨g, 0, none⟩)] w fun e w' => ∃ g' A' c' b', e = .returned (.pointer (some ⟨g', 0, none⟩)) ∧ Vd w' w.heap.size g' rows last N f A' n c' b' ∧ Below w.heap.size w w' := by
  have h0 := h.c0
  have h2 := h.c2
  have HNO := Lib.hid (vdNone g b w h.c1)
  have HNEW := Lib.hid (vdNew w)
  have HV := Lib.hid h
  have HRW := Lib.hid hrow
  obtain ⟨i1, hj, hy0, hy1, hy2⟩ := info_parts infoNote
  have HJ := Lib.hid hj
  have HY0 := Lib.hid hy0
  have HY1 := Lib.hid hy1
  have HY2 := Lib.hid hy2
  clear h hrow hj hy0 hy1 hy2
  go_enter Try.func13, Try.ntmps13
  go_wp2_with (go_at_call 16; refine HNO.out.mono ?_; rintro e w' ⟨rfl, rfl⟩)
  refine HNEW.out.mono ?_
  rintro e w1 ⟨g2, b2, rfl, hV2, hb1⟩
  have hV1 := HV.out.below hb1
  have q0 := hV1.c0
  have q2 := hV1.c2
  have r0 := hV2.c0
  have r2 := hV2.c2
  have rf := hV2.blk.frozen 2
  have HB1 := Lib.hid hb1
  have HV2 := Lib.hid hV2
  clear hV1 hV2 hb1 HNEW HNO
  go_upto_region 5 with fail
  have hg2 : w'.heap.size ≤ g2 := HV2.out.hg
  have hgl : g < w'.heap.size := HV.out.blk.lt
  have HBS : Hid (Below w'.heap.size w' (w1.setCell ⟨g2, 2, none⟩ (.int .u64 (last : Int)))) := HB1.out.setCell hg2 _
  have HK2 : Hid (Blk (w1.setCell ⟨g2, 2, none⟩ (.int .u64 (last : Int))) g2 49 #[.slice none 0 0, .map (some b2), .int .u64 (last : Int)]) := HV2.out.blk.set 2 _
  have HM2 : Hid (MapIs (w1.setCell ⟨g2, 2, none⟩ (.int .u64 (last : Int))) b2 0 Vrd.none_) := HV2.out.map.heap (heap_setCell_other w1 ⟨g2, 2, none⟩ b2 _ (fun e => HV2.out.map.noCell HV2.out.blk.ty e.symm))
  generalize (w1.setCell ⟨g2, 2, none⟩ (.int .u64 (last : Int))) = w2 at *
  clear q0 q2 r0 r2 rf
  have HVS := Lib.hid (HV.out.below HBS.out)
  have q0 : w2.cell? ⟨g, 0, none⟩ = some (.slice A n c) := HVS.out.c0
  have q1 : w2.cell? ⟨g2, 0, none⟩ = some (.slice none 0 0) := HK2.out.cell 0
  have q2 : w2.frozen? ⟨g2, 0, none⟩ = false := HK2.out.frozen 0
  refine wp_region_held_drew (S := (fun _ => True)) (by kernel_rfl) trivial (fun _ => ?_)
  refine wpAnyH_take (i := 0) (v := ?_) rfl (by kernel_rfl) (by kernel_rfl) (by kernel_rfl) (fun _ _ _ h => h) (Or.inl ⟨by rfl, ?_⟩) trivial ?_
  rotate_left
  · intro wS hSw
    go_simp
    try with_reducible rfl
  try simp only [List.getElem_toArray, List.getElem_cons_zero, List.getElem_cons_succ, Act.put, List.setIfInBounds_toArray, List.set_cons_zero, List.set_cons_succ]
  refine wpAnyH_take (i := 1) (v := ?_) rfl (by kernel_rfl) (by kernel_rfl) (by kernel_rfl) (fun _ _ _ h => h) (Or.inl ⟨by rfl, ?_⟩) trivial ?_
  rotate_left
  · intro wS hSw
    go_simp
    try with_reducible rfl
  try simp only [List.getElem_toArray, List.getElem_cons_zero, List.getElem_cons_succ, Act.put, List.setIfInBounds_toArray, List.set_cons_zero, List.set_cons_succ]
  refine wpAnyH_take (i := 2) (v := ?_) rfl (by kernel_rfl) (by kernel_rfl) (by kernel_rfl) (fun _ _ _ h => h) (Or.inl ⟨by rfl, ?_⟩) trivial ?_
  rotate_left
  · intro wS hSw
    go_simp
    try with_reducible rfl
  try simp only [List.getElem_toArray, List.getElem_cons_zero, List.getElem_cons_succ, Act.put, List.setIfInBounds_toArray, List.set_cons_zero, List.set_cons_succ]
  refine wpAnyH_take (i := 3) (v := ?_) rfl (by kernel_rfl) (by kernel_rfl) (by kernel_rfl) (fun _ _ _ h => h) (Or.inl ⟨by rfl, ?_⟩) trivial ?_
  rotate_left
  · intro wS hSw
    go_simp
    try with_reducible rfl
  try simp only [List.getElem_toArray, List.getElem_cons_zero, List.getElem_cons_succ, Act.put, List.setIfInBounds_toArray, List.set_cons_zero, List.set_cons_succ]
  refine wpAnyH_take (i := 5) (v := ?_) rfl (by kernel_rfl) (by kernel_rfl) (by kernel_rfl) (fun _ _ _ h => h) (Or.inl ⟨by rfl, ?_⟩) trivial ?_
  rotate_left
  · intro wS hSw
    go_simp
    try with_reducible rfl
  try simp only [List.getElem_toArray, List.getElem_cons_zero, List.getElem_cons_succ, Act.put, List.setIfInBounds_toArray, List.set_cons_zero, List.set_cons_succ]
  refine wpAnyH_take (i := 6) (v := ?_) rfl (by kernel_rfl) (by kernel_rfl) (by kernel_rfl) (fun _ _ _ h => h) (Or.inl ⟨by rfl, ?_⟩) trivial ?_
  rotate_left
  · intro wS hSw
    go_simp
    try with_reducible rfl
  try simp only [List.getElem_toArray, List.getElem_cons_zero, List.getElem_cons_succ, Act.put, List.setIfInBounds_toArray, List.set_cons_zero, List.set_cons_succ]
  refine wpAnyH_take (i := 7) (v := ?_) rfl (by kernel_rfl) (by kernel_rfl) (by kernel_rfl) (fun _ _ _ h => h) (Or.inl ⟨by rfl, ?_⟩) trivial ?_
  rotate_left
  · intro wS hSw
    go_simp
    try with_reducible rfl
  try simp only [List.getElem_toArray, List.getElem_cons_zero, List.getElem_cons_succ, Act.put, List.setIfInBounds_toArray, List.set_cons_zero, List.set_cons_succ]
  refine wpAnyH_ready (rs := [4, 8]) (by kernel_rfl) (by simp) ?_
  refine AllReadyH.cons rfl (fun K hK => ?_) (AllReadyH.cons rfl (fun K hK => ?_) AllReadyH.nil)
  · go_simp
    refine hK.out _ _ trivial (fun _ => ?_)
    clear hK K
    try simp only [List.getElem_toArray, List.getElem_cons_zero, List.getElem_cons_succ, Act.put, List.setIfInBounds_toArray, List.set_cons_zero, List.set_cons_succ]
    refine wpAnyH_ready (rs := [8]) (by kernel_rfl) (by simp) ?_
    refine AllReadyH.cons rfl (fun K hK => ?_) AllReadyH.nil
    go_simp
    refine hK.out _ _ trivial (fun _ => ?_)
    clear hK K
    try simp only [List.getElem_toArray, List.getElem_cons_zero, List.getElem_cons_succ, Act.put, List.setIfInBounds_toArray, List.set_cons_zero, List.set_cons_succ]
    refine wpAnyH_ready (rs := [9]) (by kernel_rfl) (by simp) ?_
    refine AllReadyH.cons rfl (fun K hK => ?_) AllReadyH.nil
    rw [if_pos (by rfl)]
    refine wp_appN (.tmp 20) (.tmp 24) _ rfl w2.heap.size 2 54 _ _ 32 Try.underlying46 HJ.out HY0.out HY1.out HY2.out rfl (by decide) none 0 0 [] rfl (World.ownsRow_nil _ _ _ _) _ A n c (noteCells rows) rfl (by rw [noteCells_length, HV.out.hn]) (Rd.of_ownS HVS.out.own) (noteCells_one HRW.out) (by unfold maxLen; omega) (by omega) (Nat.le_refl _) ?_
    intro A3 c3 w3 ho3 hg3 hb3
    rw [Nat.zero_add] at ho3 ⊢
    rw [List.nil_append] at ho3
    have HB3 : Hid (Below w2.heap.size w2 w3) := ⟨hb3.os, hb3.tape, hb3.output, hb3.size, hb3.block⟩
    have HO3 := Lib.hid ho3
    have HK3 := Lib.hid (HK2.out.below HB3.out HK2.out.lt)
    have HM3 := Lib.hid (HM2.out.below HB3.out)
    have HV3 := Lib.hid (HVS.out.below HB3.out)
    have p1 := HK3.out.cell 0
    have p2 := HK3.out.frozen 0
    clear ho3 hg3 hb3
    refine hK.out _ _ trivial (fun _ => ?_)
    clear hK K
    try simp only [List.getElem_toArray, List.getElem_cons_zero, List.getElem_cons_succ, Act.put, List.setIfInBounds_toArray, List.set_cons_zero, List.set_cons_succ]
    refine wpAnyH_take (i := 10) (v := ?_) rfl (by kernel_rfl) (by kernel_rfl) (by kernel_rfl) (fun _ _ _ h => h) (Or.inl ⟨by rfl, ?_⟩) trivial ?_
    rotate_left
    · intro wS hSw
      go_simp
      try with_reducible rfl
    try simp only [List.getElem_toArray, List.getElem_cons_zero, List.getElem_cons_succ, Act.put, List.setIfInBounds_toArray, List.set_cons_zero, List.set_cons_succ]
    refine wpAnyH_take (i := 11) (v := ?_) rfl (by kernel_rfl) (by kernel_rfl) (by kernel_rfl) (fun _ _ _ h => h) (Or.inl ⟨by rfl, ?_⟩) trivial ?_
    rotate_left
    · intro wS hSw
      go_simp
      try with_reducible rfl
    try simp only [List.getElem_toArray, List.getElem_cons_zero, List.getElem_cons_succ, Act.put, List.setIfInBounds_toArray, List.set_cons_zero, List.set_cons_succ]
    refine wpAnyH_ready (rs := [12]) (by kernel_rfl) (by simp) ?_
    refine AllReadyH.cons rfl (fun K hK => ?_) AllReadyH.nil
    go_simp
    refine hK.out _ _ trivial (fun _ => ?_)
    clear hK K
    try simp only [List.getElem_toArray, List.getElem_cons_zero, List.getElem_cons_succ, Act.put, List.setIfInBounds_toArray, List.set_cons_zero, List.set_cons_succ]
    refine wpAnyH_done (by kernel_rfl) ?_ _
    have HB4 : Hid (Below w'.heap.size w' (w3.setCell ⟨g2, 0, none⟩ (.slice A3 n c3))) := (HBS.out.via HB3.out).setCell hg2 _
    have HK4 : Hid (Blk (w3.setCell ⟨g2, 0, none⟩ (.slice A3 n c3)) g2 49 #[.slice A3 n c3, .map (some b2), .int .u64 (last : Int)]) := HK3.out.set 0 _
    have HM4 : Hid (MapIs (w3.setCell ⟨g2, 0, none⟩ (.slice A3 n c3)) b2 0 Vrd.none_) := HM3.out.heap (heap_setCell_other w3 ⟨g2, 0, none⟩ b2 _ (fun e => HM3.out.noCell HK3.out.ty e.symm))
    have HO4 : Hid ((w3.setCell ⟨g2, 0, none⟩ (.slice A3 n c3)).ownsRow w'.heap.size 54 2 (.slice A3 n c3) n (noteCells rows)) := own_lowerS (own_same HO3.out (Same.setCell (ts := [49]) (i := 0) HK3.out (by decide) _) (by decide)) HBS.out.size
    generalize (w3.setCell ⟨g2, 0, none⟩ (.slice A3 n c3)) = w4 at *
    have HV4 := Lib.hid (HV.out.below HB4.out)
    have s0 := HV4.out.c1
    have hb2l : w'.heap.size ≤ b2 := HV2.out.hb
    clear q0 q1 q2 p1 p2 HBS HK2 HM2 HVS HB3 HO3 HK3 HM3 HV3
    go_wp2_with (at_range; refine wpList_rangeV rfl (.tmp 31) rfl rfl HV4.out.map ?_; intro w5 left cnt hrg hcn hlf hg5 hs5)
    have hrl : w4.heap.size ≠ b2 := fun e => by have := HM4.out.lt; omega
    have H0 : Hid (CpI w' base g rows last N f A n c b g2 b2 w4.heap.size A3 c3 left cnt w5) := by
      have hbk : ∀ k, k < w4.heap.size → w5.heap[k]? = w4.heap[k]? := fun k hk => hg5.block k hk (by simp)
      have hsm : Same [] w4 w5 := fun k t hk _ => hbk k hk.lt
      refine ⟨HV4.out.blk.same hsm (by simp), HK4.out.same hsm (by simp), own_same HO4.out hsm (by simp), hrg, ?_, hcn, HB4.out.trans ⟨hg5.os, hg5.tape, hg5.output, hg5.size, fun k hk => hbk k (Nat.lt_of_lt_of_le hk HB4.out.size)⟩⟩
      rw [copied_start hlf]
      exact (HM4.out.heap (hbk b2 HM4.out.lt)).mono (Nat.zero_le _)
    have hrw : w'.heap.size ≤ w4.heap.size := HB4.out.size
    clear hrg hcn hlf hg5 hs5 s0
    generalize w4.heap.size = r at *
    go_frame
    go_loopw [33] (fun _ wr => ∃ (left : Lit → Bool) (cnt : Nat), Hid (CpI w' base g rows last N f A n c b g2 b2 r A3 c3 left cnt wr)) (fun _ wr => wr.rangeLeft b r)
    case atStart => exact ⟨left, cnt, H0⟩
    case round =>
      clear H0
      obtain ⟨left, cnt, hI⟩ := hrel
      have s1 := hI.out.blk2.cell 1
      have HRG := Lib.hid hI.out.rg
      go_wp2_with (at_next; refine wpList_nextV rfl (.tmp 32) rfl rfl HRG.out ?_ ?_)
      · intro hc0 hl0
        have HE : Hid (∃ N', N' = N ∧ MapIs wr b2 N' f) := ⟨N - cnt, by omega, by have := hI.out.map2; rwa [copied_end hl0] at this⟩
        go_wp2
        go_ret
        obtain ⟨N', rfl, hm⟩ := HE.out
        exact ⟨g2, A3, c3, b2, rfl, ⟨hI.out.blk2, hI.out.own2, hm, HV.out.hn, hg2, hb2l⟩, hI.out.below⟩
      · intro s v w6 cnt6 hsz hlk hf hv hrg6 hlt hg6 hs6 hen
        have hbk : ∀ k, k < wr.heap.size → k ≠ r → w6.heap[k]? = wr.heap[k]? := fun k hk hne => hg6.block k hk (by intro e; injection e with e; exact hne e)
        have hrc : ∀ k t, Ty wr k t → k ≠ r := fun k t hk e => by
          subst e
          obtain ⟨D, ⟨es, clock, since, seen, c0, _, _, _, _, hr, _⟩, _⟩ := HRG.out
          obtain ⟨cs, fr, h2⟩ := hk
          rw [hr] at h2
          cases h2
        have hsm : Same [] wr w6 := fun k t hk _ => hbk k hk.lt (hrc k t hk)
        have HM6 := Lib.hid (hI.out.map2.heap (hbk b2 hI.out.map2.lt (fun e => hrl e.symm)))
        have HK6 := Lib.hid (hI.out.blk.same hsm (by simp))
        have HK62 := Lib.hid (hI.out.blk2.same hsm (by simp))
        have HO6 := Lib.hid (own_same hI.out.own2 hsm (by simp))
        have HB6 : Hid (Below w'.heap.size w' w6) := hI.out.below.trans ⟨hg6.os, hg6.tape, hg6.output, hg6.size, fun k hk => hbk k (Nat.lt_of_lt_of_le hk hI.out.below.size) (by omega)⟩
        have HRG6 := Lib.hid hrg6
        have HST := Lib.hid (copied_step (left := left) hf)
        have HHC := Lib.hid hI.out.hc
        have s2 := HK62.out.cell 1
        have hbb2 : b ≠ b2 := fun e => by have := HV.out.map.lt; omega
        clear hI s1 hrg6 hbk hsm hrc
        go_wp2_with (at_mapUpdate; refine wpList_storeV rfl (.tmp 41) (.tmp 42) (.tmp 43) rfl rfl HM6.out (by unfold maxLen; omega) s rfl hsz v rfl hv ?_; intro w7 hm7 hg7; have HM7 := Lib.hid hm7; have HG7 := Lib.hid hg7; clear hm7 hg7; go_frame)
        have hbk7 : ∀ k, k < w6.heap.size → k ≠ b2 → w7.heap[k]? = w6.heap[k]? := fun k hk hne => HG7.out.block k hk (by intro e; injection e with e; exact hne e)
        have hsm7 : Same [] w6 w7 := fun k t hk _ => hbk7 k hk.lt (fun e => HM6.out.noCell hk e)
        have HRG7 := Lib.hid (HRG6.out.kept HG7.out (by intro e; injection e with e; exact hbb2 e) (by intro e; injection e with e; exact hrl e))
        go_roundw
        case rel =>
          refine ⟨struck left s, cnt6, ⟨HK6.out.same hsm7 (by simp), HK62.out.same hsm7 (by simp), own_same HO6.out hsm7 (by simp), HRG7.out, ?_, by have := HHC.out; omega, HB6.out.trans ⟨HG7.out.os, HG7.out.tape, HG7.out.output, HG7.out.size, fun k hk => hbk7 k (Nat.lt_of_lt_of_le hk HB6.out.size) (by omega)⟩⟩⟩
          have hm := HM7.out
          rw [HST.out] at hm
          exact hm.mono (by have := HHC.out; omega)
        case measure =>
          rw [HRG7.out.left_eq, HRG.out.left_eq]
          exact hlt
  · go_simp
    refine hK.out _ _ trivial (fun _ => ?_)
    clear hK K
    try simp only [List.getElem_toArray, List.getElem_cons_zero, List.getElem_cons_succ, Act.put, List.setIfInBounds_toArray, List.set_cons_zero, List.set_cons_succ]
    refine wpAnyH_ready (rs := [4]) (by kernel_rfl) (by simp) ?_
    refine AllReadyH.cons rfl (fun K hK => ?_) AllReadyH.nil
    go_simp
    refine hK.out _ _ trivial (fun _ => ?_)
    clear hK K
    try simp only [List.getElem_toArray, List.getElem_cons_zero, List.getElem_cons_succ, Act.put, List.setIfInBounds_toArray, List.set_cons_zero, List.set_cons_succ]
    refine wpAnyH_ready (rs := [9]) (by kernel_rfl) (by simp) ?_
    refine AllReadyH.cons rfl (fun K hK => ?_) AllReadyH.nil
    rw [if_pos (by rfl)]
    refine wp_appN (.tmp 20) (.tmp 24) _ rfl w2.heap.size 2 54 _ _ 32 Try.underlying46 HJ.out HY0.out HY1.out HY2.out rfl (by decide) none 0 0 [] rfl (World.ownsRow_nil _ _ _ _) _ A n c (noteCells rows) rfl (by rw [noteCells_length, HV.out.hn]) (Rd.of_ownS HVS.out.own) (noteCells_one HRW.out) (by unfold maxLen; omega) (by omega) (Nat.le_refl _) ?_
    intro A3 c3 w3 ho3 hg3 hb3
    rw [Nat.zero_add] at ho3 ⊢
    rw [List.nil_append] at ho3
    have HB3 : Hid (Below w2.heap.size w2 w3) := ⟨hb3.os, hb3.tape, hb3.output, hb3.size, hb3.block⟩
    have HO3 := Lib.hid ho3
    have HK3 := Lib.hid (HK2.out.below HB3.out HK2.out.lt)
    have HM3 := Lib.hid (HM2.out.below HB3.out)
    have HV3 := Lib.hid (HVS.out.below HB3.out)
    have p1 := HK3.out.cell 0
    have p2 := HK3.out.frozen 0
    clear ho3 hg3 hb3
    refine hK.out _ _ trivial (fun _ => ?_)
    clear hK K
    try simp only [List.getElem_toArray, List.getElem_cons_zero, List.getElem_cons_succ, Act.put, List.setIfInBounds_toArray, List.set_cons_zero, List.set_cons_succ]
    refine wpAnyH_take (i := 10) (v := ?_) rfl (by kernel_rfl) (by kernel_rfl) (by kernel_rfl) (fun _ _ _ h => h) (Or.inl ⟨by rfl, ?_⟩) trivial ?_
    rotate_left
    · intro wS hSw
      go_simp
      try with_reducible rfl
    try simp only [List.getElem_toArray, List.getElem_cons_zero, List.getElem_cons_succ, Act.put, List.setIfInBounds_toArray, List.set_cons_zero, List.set_cons_succ]
    refine wpAnyH_take (i := 11) (v := ?_) rfl (by kernel_rfl) (by kernel_rfl) (by kernel_rfl) (fun _ _ _ h => h) (Or.inl ⟨by rfl, ?_⟩) trivial ?_
    rotate_left
    · intro wS hSw
      go_simp
      try with_reducible rfl
    try simp only [List.getElem_toArray, List.getElem_cons_zero, List.getElem_cons_succ, Act.put, List.setIfInBounds_toArray, List.set_cons_zero, List.set_cons_succ]
    refine wpAnyH_ready (rs := [12]) (by kernel_rfl) (by simp) ?_
    refine AllReadyH.cons rfl (fun K hK => ?_) AllReadyH.nil
    go_simp
    refine hK.out _ _ trivial (fun _ => ?_)
    clear hK K
    try simp only [List.getElem_toArray, List.getElem_cons_zero, List.getElem_cons_succ, Act.put, List.setIfInBounds_toArray, List.set_cons_zero, List.set_cons_succ]
    refine wpAnyH_done (by kernel_rfl) ?_ _
    have HB4 : Hid (Below w'.heap.size w' (w3.setCell ⟨g2, 0, none⟩ (.slice A3 n c3))) := (HBS.out.via HB3.out).setCell hg2 _
    have HK4 : Hid (Blk (w3.setCell ⟨g2, 0, none⟩ (.slice A3 n c3)) g2 49 #[.slice A3 n c3, .map (some b2), .int .u64 (last : Int)]) := HK3.out.set 0 _
    have HM4 : Hid (MapIs (w3.setCell ⟨g2, 0, none⟩ (.slice A3 n c3)) b2 0 Vrd.none_) := HM3.out.heap (heap_setCell_other w3 ⟨g2, 0, none⟩ b2 _ (fun e => HM3.out.noCell HK3.out.ty e.symm))
    have HO4 : Hid ((w3.setCell ⟨g2, 0, none⟩ (.slice A3 n c3)).ownsRow w'.heap.size 54 2 (.slice A3 n c3) n (noteCells rows)) := own_lowerS (own_same HO3.out (Same.setCell (ts := [49]) (i := 0) HK3.out (by decide) _) (by decide)) HBS.out.size
    generalize (w3.setCell ⟨g2, 0, none⟩ (.slice A3 n c3)) = w4 at *
    have HV4 := Lib.hid (HV.out.below HB4.out)
    have s0 := HV4.out.c1
    have hb2l : w'.heap.size ≤ b2 := HV2.out.hb
    clear q0 q1 q2 p1 p2 HBS HK2 HM2 HVS HB3 HO3 HK3 HM3 HV3
    go_wp2_with (at_range; refine wpList_rangeV rfl (.tmp 31) rfl rfl HV4.out.map ?_; intro w5 left cnt hrg hcn hlf hg5 hs5)
    have hrl : w4.heap.size ≠ b2 := fun e => by have := HM4.out.lt; omega
    have H0 : Hid (CpI w' base g rows last N f A n c b g2 b2 w4.heap.size A3 c3 left cnt w5) := by
      have hbk : ∀ k, k < w4.heap.size → w5.heap[k]? = w4.heap[k]? := fun k hk => hg5.block k hk (by simp)
      have hsm : Same [] w4 w5 := fun k t hk _ => hbk k hk.lt
      refine ⟨HV4.out.blk.same hsm (by simp), HK4.out.same hsm (by simp), own_same HO4.out hsm (by simp), hrg, ?_, hcn, HB4.out.trans ⟨hg5.os, hg5.tape, hg5.output, hg5.size, fun k hk => hbk k (Nat.lt_of_lt_of_le hk HB4.out.size)⟩⟩
      rw [copied_start hlf]
      exact (HM4.out.heap (hbk b2 HM4.out.lt)).mono (Nat.zero_le _)
    have hrw : w'.heap.size ≤ w4.heap.size := HB4.out.size
    clear hrg hcn hlf hg5 hs5 s0
    generalize w4.heap.size = r at *
    go_frame
    go_loopw [33] (fun _ wr => ∃ (left : Lit → Bool) (cnt : Nat), Hid (CpI w' base g rows last N f A n c b g2 b2 r A3 c3 left cnt wr)) (fun _ wr => wr.rangeLeft b r)
    case atStart => exact ⟨left, cnt, H0⟩
    case round =>
      clear H0
      obtain ⟨left, cnt, hI⟩ := hrel
      have s1 := hI.out.blk2.cell 1
      have HRG := Lib.hid hI.out.rg
      go_wp2_with (at_next; refine wpList_nextV rfl (.tmp 32) rfl rfl HRG.out ?_ ?_)
      · intro hc0 hl0
        have HE : Hid (∃ N', N' = N ∧ MapIs wr b2 N' f) := ⟨N - cnt, by omega, by have := hI.out.map2; rwa [copied_end hl0] at this⟩
        go_wp2
        go_ret
        obtain ⟨N', rfl, hm⟩ := HE.out
        exact ⟨g2, A3, c3, b2, rfl, ⟨hI.out.blk2, hI.out.own2, hm, HV.out.hn, hg2, hb2l⟩, hI.out.below⟩
      · intro s v w6 cnt6 hsz hlk hf hv hrg6 hlt hg6 hs6 hen
        have hbk : ∀ k, k < wr.heap.size → k ≠ r → w6.heap[k]? = wr.heap[k]? := fun k hk hne => hg6.block k hk (by intro e; injection e with e; exact hne e)
        have hrc : ∀ k t, Ty wr k t → k ≠ r := fun k t hk e => by
          subst e
          obtain ⟨D, ⟨es, clock, since, seen, c0, _, _, _, _, hr, _⟩, _⟩ := HRG.out
          obtain ⟨cs, fr, h2⟩ := hk
          rw [hr] at h2
          cases h2
        have hsm : Same [] wr w6 := fun k t hk _ => hbk k hk.lt (hrc k t hk)
        have HM6 := Lib.hid (hI.out.map2.heap (hbk b2 hI.out.map2.lt (fun e => hrl e.symm)))
        have HK6 := Lib.hid (hI.out.blk.same hsm (by simp))
        have HK62 := Lib.hid (hI.out.blk2.same hsm (by simp))
        have HO6 := Lib.hid (own_same hI.out.own2 hsm (by simp))
        have HB6 : Hid (Below w'.heap.size w' w6) := hI.out.below.trans ⟨hg6.os, hg6.tape, hg6.output, hg6.size, fun k hk => hbk k (Nat.lt_of_lt_of_le hk hI.out.below.size) (by omega)⟩
        have HRG6 := Lib.hid hrg6
        have HST := Lib.hid (copied_step (left := left) hf)
        have HHC := Lib.hid hI.out.hc
        have s2 := HK62.out.cell 1
        have hbb2 : b ≠ b2 := fun e => by have := HV.out.map.lt; omega
        clear hI s1 hrg6 hbk hsm hrc
        go_wp2_with (at_mapUpdate; refine wpList_storeV rfl (.tmp 41) (.tmp 42) (.tmp 43) rfl rfl HM6.out (by unfold maxLen; omega) s rfl hsz v rfl hv ?_; intro w7 hm7 hg7; have HM7 := Lib.hid hm7; have HG7 := Lib.hid hg7; clear hm7 hg7; go_frame)
        have hbk7 : ∀ k, k < w6.heap.size → k ≠ b2 → w7.heap[k]? = w6.heap[k]? := fun k hk hne => HG7.out.block k hk (by intro e; injection e with e; exact hne e)
        have hsm7 : Same [] w6 w7 := fun k t hk _ => hbk7 k hk.lt (fun e => HM6.out.noCell hk e)
        have HRG7 := Lib.hid (HRG6.out.kept HG7.out (by intro e; injection e with e; exact hbb2 e) (by intro e; injection e with e; exact hrl e))
        go_roundw
        case rel =>
          refine ⟨struck left s, cnt6, ⟨HK6.out.same hsm7 (by simp), HK62.out.same hsm7 (by simp), own_same HO6.out hsm7 (by simp), HRG7.out, ?_, by have := HHC.out; omega, HB6.out.trans ⟨HG7.out.os, HG7.out.tape, HG7.out.output, HG7.out.size, fun k hk => hbk7 k (Nat.lt_of_lt_of_le hk HB6.out.size) (by omega)⟩⟩⟩
          have hm := HM7.out
          rw [HST.out] at hm
          exact hm.mono (by have := HHC.out; omega)
        case measure =>
          rw [HRG7.out.left_eq, HRG.out.left_eq]
          exact hlt
end Cib
