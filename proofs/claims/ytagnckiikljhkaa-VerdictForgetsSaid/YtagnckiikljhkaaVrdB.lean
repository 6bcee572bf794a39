/- Note. -/
import Derived.Test.YtagnckiikljhkaaVrdA
set_option linter.unusedVariables false
set_option linter.unusedSimpArgs false
set_option maxRecDepth 20000
namespace Cib
open Go Go.RowKit Go.Proofs
variable {w w' wr w1 : World} {b N base g last n c : Nat} {f : Vrd.Mem} {rows : List (Nat × Value)} {A Ak : Option Addr} {keys : List ByteArray}
theorem infoStr : (Try.prog.info? 9).map (fun i => (i.zero, i.size, i.bytes)) = some (some (.string ⟨#[]⟩), 1, 16) := by kernel_rfl
theorem infoNote : (Try.prog.info? 54).map (fun i => (i.zero, i.size, i.bytes)) = some (some (.agg #[.int .u64 0, .slice none 0 0]), 2, 32) := by kernel_rfl
/-- What a call that notes changes: below base nothing, of the rest the verdict's cells and its notes alone. -/
structure Chg (base : Nat) (w w' : World) : Prop where
  below : Below base w w'
  same : Same [49, 54] w w'
theorem Chg.trans (h : Chg base w w') (h' : Chg base w' w1) : Chg base w w1 := ⟨h.below.trans h'.below, h.same.trans h'.same⟩
theorem Chg.refl (base : Nat) (w : World) : Chg base w w := ⟨Below.refl _ _, Same.refl _ _⟩
theorem Chg.of (h : Below w.heap.size w w') (hb : base ≤ w.heap.size) : Chg base w w' := ⟨h.mono hb, Same.below h⟩
/-- In the loop of Note: the notes have the new one, j keys are in the map. -/
structure NtI (base g : Nat) (rows : List (Nat × Value)) (last N : Nat) (f : Vrd.Mem) (stamp : Nat) (keys : List ByteArray) (A : Option Addr) (n c b : Nat) (w : World) (j : Nat) (wr : World) : Prop where
  blk : Blk wr g 49 #[.slice A n c, .map (some b), .int .u64 (last : Int)]
  own : wr.ownsRow base 54 2 (.slice A n c) n (noteCells rows)
  map : MapIs wr b (N + j) (Vrd.note f stamp (keys.take j))
  chg : Chg base w wr
theorem NtI.next {stamp j : Nat} (h : NtI base g rows last N f stamp keys A n c b w j wr) (hj : j < keys.length) (hb : base ≤ b) (hm : MapIs w1 b (N + j + 1) (Vrd.note (Vrd.note f stamp (keys.take j)) stamp [keys[j]])) (hg : wr.grownBy w1 (some b)) :
    NtI base g rows last N f stamp keys A n c b w (j + 1) w1 := by
  have hk : ∀ k t, Ty wr k t → w1.heap[k]? = wr.heap[k]? := fun k t hk => hg.block k hk.lt (by intro e; injection e with e; exact h.map.noCell hk e)
  have hs : Same [] wr w1 := fun k t hk' _ => hk k t hk'
  refine ⟨h.blk.same hs (by simp), own_same h.own hs (by simp), ?_, h.chg.trans ⟨⟨hg.os, hg.tape, hg.output, hg.size, fun k hk => ?_⟩, hs.more (by simp)⟩⟩
  · rw [Vrd.note_take f stamp keys hj]
    exact hm
  · have := h.map.lt
    exact hg.block k (Nat.lt_of_lt_of_le (Nat.lt_of_lt_of_le hk hb) (Nat.le_of_lt this)) (by intro e; injection e with e; omega)
/-- What Note leaves. -/
def Noted (base g : Nat) (rows : List (Nat × Value)) (N : Nat) (f : Vrd.Mem) (stamp : Nat) (keys : List ByteArray) (n b : Nat) (w : World) (e : Ending) (w' : World) : Prop :=
  e = .returned (.bool true) ∧ (∃ (v : Value) (A' : Option Addr) (c' : Nat), v.oneCell' = true ∧ Vd w' base g (rows ++ [(stamp, v)]) stamp (N + keys.length) (Vrd.note f stamp keys) A' (n + 1) c' b) ∧ Chg base w w'
set_option maxHeartbeats 2000000 in
theorem vdNote (h : Vd w base g rows last N f A n c b) (stamp : Nat) (hst : last < stamp) (hst2 : stamp < 18446744073709551616) (hk : KeyS w base Ak keys) (hs : ∀ k ∈ keys, k.size ≤ maxLen) {nk : Nat} (hnk : keys.length = nk) (hnn : n ≤ 65536) (hN : N ≤ 65536) (hkk : nk ≤ 65536) (ck : Nat) :
    Calls Try.prog 10 #[.pointer (some ⟨g, 0, none⟩), .int .u64 (stamp : Int), .slice Ak nk ck] w (Noted base g rows N f stamp keys n b w) := by
  have h0 := h.c0
  have h1 := h.c1
  have h2 := h.c2
  have f0 := h.blk.frozen 0
  have HNO := Lib.hid (vdNone g b w h.c1)
  have HV := Lib.hid h
  have HK := Lib.hid hk
  have HS := Lib.hid hs
  have HNK := Lib.hid hnk
  have hd : decide ((stamp : Int) ≤ (last : Int)) = false := by simp; omega
  have HG := Lib.hid h.hg
  have HB := Lib.hid h.hb
  have hgl := h.blk.lt
  obtain ⟨i0, hi, hz0, hz1, hz2⟩ := info_parts infoStr
  obtain ⟨i1, hj, hy0, hy1, hy2⟩ := info_parts infoNote
  have HI := Lib.hid hi
  have HZ0 := Lib.hid hz0
  have HZ1 := Lib.hid hz1
  have HZ2 := Lib.hid hz2
  have HJ := Lib.hid hj
  have HY0 := Lib.hid hy0
  have HY1 := Lib.hid hy1
  have HY2 := Lib.hid hy2
  clear h hk hs hnk hi hz0 hz1 hz2 hj hy0 hy1 hy2
  go_enter Try.func10, Try.ntmps10
  go_upto_region 3 with (go_at_call 16; refine HNO.out.mono ?_; rintro e w' ⟨rfl, rfl⟩)
  have q0 : (w'.drewN 1).cell? ⟨g, 0, none⟩ = some (.slice A n c) := h0
  refine wp_region_held_drew (S := (fun _ => True)) (by kernel_rfl) trivial (fun _ => ?_)
  refine wpAnyH_take (i := 0) (v := ?_) rfl (by kernel_rfl) (by kernel_rfl) (by kernel_rfl) (fun _ _ _ h => h) (Or.inl ⟨by rfl, ?_⟩) trivial ?_
  rotate_left
  · intro wS hSw
    go_simp
    try with_reducible rfl
  try simp only [List.getElem_toArray, List.getElem_cons_zero, List.getElem_cons_succ, Act.put, List.setIfInBounds_toArray, List.set_cons_zero, List.set_cons_succ]
  refine wpAnyH_take (i := 1) (v := ?_) rfl (by kernel_rfl) (by kernel_rfl) (by kernel_rfl) (fun _ _ _ h => h) (Or.inl ⟨by rfl, ?_⟩) trivial ?_
  rotate_left
  · intro wS hSw
    go_simp
    try with_reducible rfl
  try simp only [List.getElem_toArray, List.getElem_cons_zero, List.getElem_cons_succ, Act.put, List.setIfInBounds_toArray, List.set_cons_zero, List.set_cons_succ]
  refine wpAnyH_take (i := 2) (v := ?_) rfl (by kernel_rfl) (by kernel_rfl) (by kernel_rfl) (fun _ _ _ h => h) (Or.inl ⟨by rfl, ?_⟩) trivial ?_
  rotate_left
  · intro wS hSw
    go_simp
    try with_reducible rfl
  try simp only [List.getElem_toArray, List.getElem_cons_zero, List.getElem_cons_succ, Act.put, List.setIfInBounds_toArray, List.set_cons_zero, List.set_cons_succ]
  refine wpAnyH_take (i := 3) (v := ?_) rfl (by kernel_rfl) (by kernel_rfl) (by kernel_rfl) (fun _ _ _ h => h) (Or.inl ⟨by rfl, ?_⟩) trivial ?_
  rotate_left
  · intro wS hSw
    go_simp
    try with_reducible rfl
  try simp only [List.getElem_toArray, List.getElem_cons_zero, List.getElem_cons_succ, Act.put, List.setIfInBounds_toArray, List.set_cons_zero, List.set_cons_succ]
  refine wpAnyH_take (i := 5) (v := ?_) rfl (by kernel_rfl) (by kernel_rfl) (by kernel_rfl) (fun _ _ _ h => h) (Or.inl ⟨by rfl, ?_⟩) trivial ?_
  rotate_left
  · intro wS hSw
    go_simp
    try with_reducible rfl
  try simp only [List.getElem_toArray, List.getElem_cons_zero, List.getElem_cons_succ, Act.put, List.setIfInBounds_toArray, List.set_cons_zero, List.set_cons_succ]
  refine wpAnyH_take (i := 6) (v := ?_) rfl (by kernel_rfl) (by kernel_rfl) (by kernel_rfl) (fun _ _ _ h => h) (Or.inl ⟨by rfl, ?_⟩) trivial ?_
  rotate_left
  · intro wS hSw
    go_simp
    try with_reducible rfl
  try simp only [List.getElem_toArray, List.getElem_cons_zero, List.getElem_cons_succ, Act.put, List.setIfInBounds_toArray, List.set_cons_zero, List.set_cons_succ]
  refine wpAnyH_ready (rs := [4, 7]) (by kernel_rfl) (by simp) ?_
  refine AllReadyH.cons rfl (fun K hK => ?_) (AllReadyH.cons rfl (fun K hK => ?_) AllReadyH.nil)
  · go_simp
    refine hK.out _ _ trivial (fun _ => ?_)
    clear hK K
    try simp only [List.getElem_toArray, List.getElem_cons_zero, List.getElem_cons_succ, Act.put, List.setIfInBounds_toArray, List.set_cons_zero, List.set_cons_succ]
    refine wpAnyH_ready (rs := [7]) (by kernel_rfl) (by simp) ?_
    refine AllReadyH.cons rfl (fun K hK => ?_) AllReadyH.nil
    rw [if_pos (by rfl)]
    refine wp_app1 (.const (.slice none 0 0)) (.tmp 25) _ rfl w'.heap.size 9 _ _ 16 Try.underlying27 HI.out HZ0.out HZ1.out HZ2.out rfl none 0 0 [] rfl (World.ownsRow_nil _ _ _ _) _ Ak nk ck _ rfl (by rw [List.length_map]; exact HNK.out) HK.out.rd sv_one (by unfold maxLen; omega) (by omega) (Nat.le_refl _) ?_
    intro A2 c2 w2 ho2 hg2 hb2
    rw [Nat.zero_add]
    have HB2 : Hid (Below w'.heap.size w' w2) := ⟨hb2.os, hb2.tape, hb2.output, hb2.size, hb2.block⟩
    have q2 : w2.cell? ⟨g, 0, none⟩ = some (.slice A n c) := ((HV.out.blk.below HB2.out HV.out.blk.lt).cell 0)
    have q3 : (w2.alloc (.cells #[.int .u64 (stamp : Int), .slice A2 nk c2] 54)).cell? ⟨g, 0, none⟩ = some (.slice A n c) := (((HV.out.blk.below HB2.out HV.out.blk.lt).alloc _).cell 0)
    have hz2s := HB2.out.size
    clear ho2 hg2 hb2
    refine hK.out _ _ trivial (fun _ => ?_)
    clear hK K
    try simp only [List.getElem_toArray, List.getElem_cons_zero, List.getElem_cons_succ, Act.put, List.setIfInBounds_toArray, List.set_cons_zero, List.set_cons_succ]
    refine wpAnyH_take (i := 8) (v := ?_) rfl (by kernel_rfl) (by kernel_rfl) (by kernel_rfl) (fun _ _ _ h => h) (Or.inl ⟨by rfl, ?_⟩) trivial ?_
    rotate_left
    · intro wS hSw
      go_simp
      try with_reducible rfl
    try simp only [List.getElem_toArray, List.getElem_cons_zero, List.getElem_cons_succ, Act.put, List.setIfInBounds_toArray, List.set_cons_zero, List.set_cons_succ]
    refine wpAnyH_ready (rs := [9]) (by kernel_rfl) (by simp) ?_
    refine AllReadyH.cons rfl (fun K hK => ?_) AllReadyH.nil
    go_simp
    refine hK.out _ _ trivial (fun _ => ?_)
    clear hK K
    try simp only [List.getElem_toArray, List.getElem_cons_zero, List.getElem_cons_succ, Act.put, List.setIfInBounds_toArray, List.set_cons_zero, List.set_cons_succ]
    refine wpAnyH_ready (rs := [10]) (by kernel_rfl) (by simp) ?_
    refine AllReadyH.cons rfl (fun K hK => ?_) AllReadyH.nil
    rw [if_pos (by rfl)]
    refine wp_appS (.tmp 23) (.tmp 28) _ rfl base 2 54 _ _ 32 Try.underlying46 HJ.out HY0.out HY1.out HY2.out rfl (by decide) A n c _ rfl ((own_belowS HV.out.own HB2.out).alloc _) _ ⟨w2.heap.size, 0, none⟩ 1 1 [.int .u64 (stamp : Int), .slice A2 nk c2] rfl rfl (Rd.new w2 _ _ _ rfl) (by intro u hu; simp at hu; rcases hu with rfl | rfl <;> rfl) (by unfold maxLen; omega) (by omega) (by have := HG.out; simp; omega) ?_
    intro A4 c4 w4 ho4 hg4 hb4
    have HBK2 := Lib.hid ((HV.out.blk.below HB2.out HV.out.blk.lt).alloc (.cells #[.int .u64 (stamp : Int), .slice A2 nk c2] 54))
    have HSM4 := Lib.hid (Same.grown (ts := [54]) ((own_belowS HV.out.own HB2.out).alloc (.cells #[.int .u64 (stamp : Int), .slice A2 nk c2] 54)) hg4 (by decide))
    have HBK4 := Lib.hid (HBK2.out.same HSM4.out (by decide))
    have HO4 := Lib.hid ho4
    have HB4 := Lib.hid hb4
    have HG4 := Lib.hid hg4
    have q4 := HBK4.out.cell 0
    have q5 := HBK4.out.frozen 0
    clear ho4 hb4 hg4
    refine hK.out _ _ trivial (fun _ => ?_)
    clear hK K
    try simp only [List.getElem_toArray, List.getElem_cons_zero, List.getElem_cons_succ, Act.put, List.setIfInBounds_toArray, List.set_cons_zero, List.set_cons_succ]
    refine wpAnyH_take (i := 11) (v := ?_) rfl (by kernel_rfl) (by kernel_rfl) (by kernel_rfl) (fun _ _ _ h => h) (Or.inl ⟨by rfl, ?_⟩) trivial ?_
    rotate_left
    · intro wS hSw
      go_simp
      try with_reducible rfl
    try simp only [List.getElem_toArray, List.getElem_cons_zero, List.getElem_cons_succ, Act.put, List.setIfInBounds_toArray, List.set_cons_zero, List.set_cons_succ]
    refine wpAnyH_take (i := 12) (v := ?_) rfl (by kernel_rfl) (by kernel_rfl) (by kernel_rfl) (fun _ _ _ h => h) (Or.inl ⟨by rfl, ?_⟩) trivial ?_
    rotate_left
    · intro wS hSw
      go_simp
      try with_reducible rfl
    try simp only [List.getElem_toArray, List.getElem_cons_zero, List.getElem_cons_succ, Act.put, List.setIfInBounds_toArray, List.set_cons_zero, List.set_cons_succ]
    refine wpAnyH_ready (rs := [13]) (by kernel_rfl) (by simp) ?_
    refine AllReadyH.cons rfl (fun K hK => ?_) AllReadyH.nil
    go_simp
    refine hK.out _ _ trivial (fun _ => ?_)
    clear hK K
    try simp only [List.getElem_toArray, List.getElem_cons_zero, List.getElem_cons_succ, Act.put, List.setIfInBounds_toArray, List.set_cons_zero, List.set_cons_succ]
    refine wpAnyH_done (by kernel_rfl) ?_ _
    have HBK5 : Hid (Blk (w4.setCell ⟨g, 0, none⟩ (.slice A4 (n + 1) c4)) g 49 #[.slice A4 (n + 1) c4, .map (some b), .int .u64 (last : Int)]) := HBK4.out.set 0 _
    have HSC := Lib.hid (Same.setCell (ts := [49]) (i := 0) HBK4.out (by decide) (.slice A4 (n + 1) c4))
    have HO5 : Hid ((w4.setCell ⟨g, 0, none⟩ (.slice A4 (n + 1) c4)).ownsRow base 54 2 (.slice A4 (n + 1) c4) (n + 1) (noteCells (rows ++ [(stamp, .slice A2 nk c2)]))) := by
      rw [noteCells_snoc]
      exact own_same HO4.out HSC.out (by decide)
    have HCH : Hid (Chg base w' (w4.setCell ⟨g, 0, none⟩ (.slice A4 (n + 1) c4))) := by
      have hbw : base ≤ w'.heap.size := Nat.le_trans HG.out (Nat.le_of_lt hgl)
      have e1 : Chg base w' (w2.alloc (.cells #[.int .u64 (stamp : Int), .slice A2 nk c2] 54)) := Chg.of (HB2.out.alloc hz2s _) hbw
      exact (e1.trans ⟨HB4.out, HSM4.out.more (by decide)⟩).trans ⟨(Below.refl base w4).setCell HG.out _, HSC.out.more (by decide)⟩
    have HM5 : Hid (MapIs (w4.setCell ⟨g, 0, none⟩ (.slice A4 (n + 1) c4)) b (N + 0) (Vrd.note f stamp (keys.take 0))) := by
      have hm2 := (HV.out.map.below HB2.out).below ((Below.refl _ _).alloc (Nat.le_refl _) (.cells #[.int .u64 (stamp : Int), .slice A2 nk c2] 54))
      have hne : b ≠ g := fun e => HV.out.map.noCell HV.out.blk.ty e.symm
      rw [Vrd.note_none, Nat.add_zero]
      have hm4 : MapIs w4 b N f := hm2.heap (HG4.out.block b hm2.lt (fun e => hm2.noCell (own_blockV ((own_belowS HV.out.own HB2.out).alloc (.cells #[.int .u64 (stamp : Int), .slice A2 nk c2] 54)) e.symm).1 rfl))
      exact hm4.heap (heap_setCell_other w4 ⟨g, 0, none⟩ b _ hne)
    have HNT : Hid (NtI base g (rows ++ [(stamp, .slice A2 nk c2)]) last N f stamp keys A4 (n + 1) c4 b w' 0 (w4.setCell ⟨g, 0, none⟩ (.slice A4 (n + 1) c4))) := ⟨HBK5.out, HO5.out, HM5.out, HCH.out⟩
    clear q0 q2 q3 q4 q5 h0 h1 h2 f0 HBK2 HSM4 HBK4 HO4 HB4 HG4 HBK5 HSC HO5 HCH HM5 HB2 hz2s
    generalize (w4.setCell ⟨g, 0, none⟩ (.slice A4 (n + 1) c4)) = w5 at *
    go_wp2
    go_loopw [34] (fun i wr => ∃ j : Nat, i = .int .i64 j ∧ j ≤ nk ∧ Hid (NtI base g (rows ++ [(stamp, .slice A2 nk c2)]) last N f stamp keys A4 (n + 1) c4 b w' j wr)) (fun i _ => nk - (intOf i).toNat)
    case atStart => exact ⟨0, rfl, Nat.zero_le _, HNT⟩
    case round =>
      clear HNT
      obtain ⟨j, rfl, hjn, hI⟩ := hrel
      have r0 := hI.out.blk.cell 1
      have r2 := hI.out.blk.cell 2
      have r1 := hI.out.blk.frozen 2
      by_cases hlt : j < nk
      · have hjk : j < keys.length := by rw [HNK.out]; exact hlt
        obtain ⟨ad, rfl, hc⟩ := (HK.out.chg hI.out.chg.below hI.out.chg.same (by decide)).cell hjk
        have HSZ := Lib.hid (HS.out _ (List.getElem_mem hjk))
        have HNX := Lib.hid (fun w1 hm hg => NtI.next (w1 := w1) hI.out hjk HB.out hm hg)
        have HMP := Lib.hid hI.out.map
        generalize keys[j] = s at *
        clear hI hjk
        go_wp2_with (at_mapUpdate; refine wpList_storeV rfl (.tmp 41) (.tmp 42) (.tmp 43) rfl rfl HMP.out (by unfold maxLen; omega) s rfl HSZ.out stamp rfl hst2 ?_; intro w6 hm6 hg6; have HX := Lib.hid (HNX.out w6 hm6 hg6); clear hm6 hg6)
        exact ⟨⟨j + 1, by go_num, hlt, HX⟩, by simp [intOf]; omega⟩
      · obtain rfl : j = nk := by omega
        have HIX := Lib.hid hI.out
        clear hI
        go_wp2
        go_ret
        have hsc := Same.setCell (ts := [49]) (i := 2) HIX.out.blk (by decide) (.int .u64 (stamp : Int))
        have hne : b ≠ g := fun e => HIX.out.map.noCell HIX.out.blk.ty e.symm
        have hm := HIX.out.map.heap (heap_setCell_other wr ⟨g, 2, none⟩ b (.int .u64 (stamp : Int)) hne)
        rw [List.take_of_length_le (by rw [HNK.out]; exact Nat.le_refl _)] at hm
        refine ⟨rfl, ⟨.slice A2 j c2, A4, c4, rfl, ⟨HIX.out.blk.set 2 _, own_same HIX.out.own hsc (by decide), by rw [HNK.out]; exact hm, ?_, HG.out, HB.out⟩⟩, HIX.out.chg.trans ⟨(Below.refl base wr).setCell HG.out _, hsc.more (by decide)⟩⟩
        rw [List.length_append, HV.out.hn]
        rfl
  · rw [if_pos (by rfl)]
    refine wp_app1 (.const (.slice none 0 0)) (.tmp 25) _ rfl w'.heap.size 9 _ _ 16 Try.underlying27 HI.out HZ0.out HZ1.out HZ2.out rfl none 0 0 [] rfl (World.ownsRow_nil _ _ _ _) _ Ak nk ck _ rfl (by rw [List.length_map]; exact HNK.out) HK.out.rd sv_one (by unfold maxLen; omega) (by omega) (Nat.le_refl _) ?_
    intro A2 c2 w2 ho2 hg2 hb2
    rw [Nat.zero_add]
    have HB2 : Hid (Below w'.heap.size w' w2) := ⟨hb2.os, hb2.tape, hb2.output, hb2.size, hb2.block⟩
    have q2 : w2.cell? ⟨g, 0, none⟩ = some (.slice A n c) := ((HV.out.blk.below HB2.out HV.out.blk.lt).cell 0)
    have q3 : (w2.alloc (.cells #[.int .u64 (stamp : Int), .slice A2 nk c2] 54)).cell? ⟨g, 0, none⟩ = some (.slice A n c) := (((HV.out.blk.below HB2.out HV.out.blk.lt).alloc _).cell 0)
    have hz2s := HB2.out.size
    clear ho2 hg2 hb2
    refine hK.out _ _ trivial (fun _ => ?_)
    clear hK K
    try simp only [List.getElem_toArray, List.getElem_cons_zero, List.getElem_cons_succ, Act.put, List.setIfInBounds_toArray, List.set_cons_zero, List.set_cons_succ]
    refine wpAnyH_take (i := 8) (v := ?_) rfl (by kernel_rfl) (by kernel_rfl) (by kernel_rfl) (fun _ _ _ h => h) (Or.inl ⟨by rfl, ?_⟩) trivial ?_
    rotate_left
    · intro wS hSw
      go_simp
      try with_reducible rfl
    try simp only [List.getElem_toArray, List.getElem_cons_zero, List.getElem_cons_succ, Act.put, List.setIfInBounds_toArray, List.set_cons_zero, List.set_cons_succ]
    refine wpAnyH_ready (rs := [4, 9]) (by kernel_rfl) (by simp) ?_
    refine AllReadyH.cons rfl (fun K hK => ?_) (AllReadyH.cons rfl (fun K hK => ?_) AllReadyH.nil)
    · go_simp
      refine hK.out _ _ trivial (fun _ => ?_)
      clear hK K
      try simp only [List.getElem_toArray, List.getElem_cons_zero, List.getElem_cons_succ, Act.put, List.setIfInBounds_toArray, List.set_cons_zero, List.set_cons_succ]
      refine wpAnyH_ready (rs := [9]) (by kernel_rfl) (by simp) ?_
      refine AllReadyH.cons rfl (fun K hK => ?_) AllReadyH.nil
      go_simp
      refine hK.out _ _ trivial (fun _ => ?_)
      clear hK K
      try simp only [List.getElem_toArray, List.getElem_cons_zero, List.getElem_cons_succ, Act.put, List.setIfInBounds_toArray, List.set_cons_zero, List.set_cons_succ]
      refine wpAnyH_ready (rs := [10]) (by kernel_rfl) (by simp) ?_
      refine AllReadyH.cons rfl (fun K hK => ?_) AllReadyH.nil
      rw [if_pos (by rfl)]
      refine wp_appS (.tmp 23) (.tmp 28) _ rfl base 2 54 _ _ 32 Try.underlying46 HJ.out HY0.out HY1.out HY2.out rfl (by decide) A n c _ rfl ((own_belowS HV.out.own HB2.out).alloc _) _ ⟨w2.heap.size, 0, none⟩ 1 1 [.int .u64 (stamp : Int), .slice A2 nk c2] rfl rfl (Rd.new w2 _ _ _ rfl) (by intro u hu; simp at hu; rcases hu with rfl | rfl <;> rfl) (by unfold maxLen; omega) (by omega) (by have := HG.out; simp; omega) ?_
      intro A4 c4 w4 ho4 hg4 hb4
      have HBK2 := Lib.hid ((HV.out.blk.below HB2.out HV.out.blk.lt).alloc (.cells #[.int .u64 (stamp : Int), .slice A2 nk c2] 54))
      have HSM4 := Lib.hid (Same.grown (ts := [54]) ((own_belowS HV.out.own HB2.out).alloc (.cells #[.int .u64 (stamp : Int), .slice A2 nk c2] 54)) hg4 (by decide))
      have HBK4 := Lib.hid (HBK2.out.same HSM4.out (by decide))
      have HO4 := Lib.hid ho4
      have HB4 := Lib.hid hb4
      have HG4 := Lib.hid hg4
      have q4 := HBK4.out.cell 0
      have q5 := HBK4.out.frozen 0
      clear ho4 hb4 hg4
      refine hK.out _ _ trivial (fun _ => ?_)
      clear hK K
      try simp only [List.getElem_toArray, List.getElem_cons_zero, List.getElem_cons_succ, Act.put, List.setIfInBounds_toArray, List.set_cons_zero, List.set_cons_succ]
      refine wpAnyH_take (i := 11) (v := ?_) rfl (by kernel_rfl) (by kernel_rfl) (by kernel_rfl) (fun _ _ _ h => h) (Or.inl ⟨by rfl, ?_⟩) trivial ?_
      rotate_left
      · intro wS hSw
        go_simp
        try with_reducible rfl
      try simp only [List.getElem_toArray, List.getElem_cons_zero, List.getElem_cons_succ, Act.put, List.setIfInBounds_toArray, List.set_cons_zero, List.set_cons_succ]
      refine wpAnyH_take (i := 12) (v := ?_) rfl (by kernel_rfl) (by kernel_rfl) (by kernel_rfl) (fun _ _ _ h => h) (Or.inl ⟨by rfl, ?_⟩) trivial ?_
      rotate_left
      · intro wS hSw
        go_simp
        try with_reducible rfl
      try simp only [List.getElem_toArray, List.getElem_cons_zero, List.getElem_cons_succ, Act.put, List.setIfInBounds_toArray, List.set_cons_zero, List.set_cons_succ]
      refine wpAnyH_ready (rs := [13]) (by kernel_rfl) (by simp) ?_
      refine AllReadyH.cons rfl (fun K hK => ?_) AllReadyH.nil
      go_simp
      refine hK.out _ _ trivial (fun _ => ?_)
      clear hK K
      try simp only [List.getElem_toArray, List.getElem_cons_zero, List.getElem_cons_succ, Act.put, List.setIfInBounds_toArray, List.set_cons_zero, List.set_cons_succ]
      refine wpAnyH_done (by kernel_rfl) ?_ _
      have HBK5 : Hid (Blk (w4.setCell ⟨g, 0, none⟩ (.slice A4 (n + 1) c4)) g 49 #[.slice A4 (n + 1) c4, .map (some b), .int .u64 (last : Int)]) := HBK4.out.set 0 _
      have HSC := Lib.hid (Same.setCell (ts := [49]) (i := 0) HBK4.out (by decide) (.slice A4 (n + 1) c4))
      have HO5 : Hid ((w4.setCell ⟨g, 0, none⟩ (.slice A4 (n + 1) c4)).ownsRow base 54 2 (.slice A4 (n + 1) c4) (n + 1) (noteCells (rows ++ [(stamp, .slice A2 nk c2)]))) := by
        rw [noteCells_snoc]
        exact own_same HO4.out HSC.out (by decide)
      have HCH : Hid (Chg base w' (w4.setCell ⟨g, 0, none⟩ (.slice A4 (n + 1) c4))) := by
        have hbw : base ≤ w'.heap.size := Nat.le_trans HG.out (Nat.le_of_lt hgl)
        have e1 : Chg base w' (w2.alloc (.cells #[.int .u64 (stamp : Int), .slice A2 nk c2] 54)) := Chg.of (HB2.out.alloc hz2s _) hbw
        exact (e1.trans ⟨HB4.out, HSM4.out.more (by decide)⟩).trans ⟨(Below.refl base w4).setCell HG.out _, HSC.out.more (by decide)⟩
      have HM5 : Hid (MapIs (w4.setCell ⟨g, 0, none⟩ (.slice A4 (n + 1) c4)) b (N + 0) (Vrd.note f stamp (keys.take 0))) := by
        have hm2 := (HV.out.map.below HB2.out).below ((Below.refl _ _).alloc (Nat.le_refl _) (.cells #[.int .u64 (stamp : Int), .slice A2 nk c2] 54))
        have hne : b ≠ g := fun e => HV.out.map.noCell HV.out.blk.ty e.symm
        rw [Vrd.note_none, Nat.add_zero]
        have hm4 : MapIs w4 b N f := hm2.heap (HG4.out.block b hm2.lt (fun e => hm2.noCell (own_blockV ((own_belowS HV.out.own HB2.out).alloc (.cells #[.int .u64 (stamp : Int), .slice A2 nk c2] 54)) e.symm).1 rfl))
        exact hm4.heap (heap_setCell_other w4 ⟨g, 0, none⟩ b _ hne)
      have HNT : Hid (NtI base g (rows ++ [(stamp, .slice A2 nk c2)]) last N f stamp keys A4 (n + 1) c4 b w' 0 (w4.setCell ⟨g, 0, none⟩ (.slice A4 (n + 1) c4))) := ⟨HBK5.out, HO5.out, HM5.out, HCH.out⟩
      clear q0 q2 q3 q4 q5 h0 h1 h2 f0 HBK2 HSM4 HBK4 HO4 HB4 HG4 HBK5 HSC HO5 HCH HM5 HB2 hz2s
      generalize (w4.setCell ⟨g, 0, none⟩ (.slice A4 (n + 1) c4)) = w5 at *
      go_wp2
      go_loopw [34] (fun i wr => ∃ j : Nat, i = .int .i64 j ∧ j ≤ nk ∧ Hid (NtI base g (rows ++ [(stamp, .slice A2 nk c2)]) last N f stamp keys A4 (n + 1) c4 b w' j wr)) (fun i _ => nk - (intOf i).toNat)
      case atStart => exact ⟨0, rfl, Nat.zero_le _, HNT⟩
      case round =>
        clear HNT
        obtain ⟨j, rfl, hjn, hI⟩ := hrel
        have r0 := hI.out.blk.cell 1
        have r2 := hI.out.blk.cell 2
        have r1 := hI.out.blk.frozen 2
        by_cases hlt : j < nk
        · have hjk : j < keys.length := by rw [HNK.out]; exact hlt
          obtain ⟨ad, rfl, hc⟩ := (HK.out.chg hI.out.chg.below hI.out.chg.same (by decide)).cell hjk
          have HSZ := Lib.hid (HS.out _ (List.getElem_mem hjk))
          have HNX := Lib.hid (fun w1 hm hg => NtI.next (w1 := w1) hI.out hjk HB.out hm hg)
          have HMP := Lib.hid hI.out.map
          generalize keys[j] = s at *
          clear hI hjk
          go_wp2_with (at_mapUpdate; refine wpList_storeV rfl (.tmp 41) (.tmp 42) (.tmp 43) rfl rfl HMP.out (by unfold maxLen; omega) s rfl HSZ.out stamp rfl hst2 ?_; intro w6 hm6 hg6; have HX := Lib.hid (HNX.out w6 hm6 hg6); clear hm6 hg6)
          exact ⟨⟨j + 1, by go_num, hlt, HX⟩, by simp [intOf]; omega⟩
        · obtain rfl : j = nk := by omega
          have HIX := Lib.hid hI.out
          clear hI
          go_wp2
          go_ret
          have hsc := Same.setCell (ts := [49]) (i := 2) HIX.out.blk (by decide) (.int .u64 (stamp : Int))
          have hne : b ≠ g := fun e => HIX.out.map.noCell HIX.out.blk.ty e.symm
          have hm := HIX.out.map.heap (heap_setCell_other wr ⟨g, 2, none⟩ b (.int .u64 (stamp : Int)) hne)
          rw [List.take_of_length_le (by rw [HNK.out]; exact Nat.le_refl _)] at hm
          refine ⟨rfl, ⟨.slice A2 j c2, A4, c4, rfl, ⟨HIX.out.blk.set 2 _, own_same HIX.out.own hsc (by decide), by rw [HNK.out]; exact hm, ?_, HG.out, HB.out⟩⟩, HIX.out.chg.trans ⟨(Below.refl base wr).setCell HG.out _, hsc.more (by decide)⟩⟩
          rw [List.length_append, HV.out.hn]
          rfl
    · go_simp
      refine hK.out _ _ trivial (fun _ => ?_)
      clear hK K
      try simp only [List.getElem_toArray, List.getElem_cons_zero, List.getElem_cons_succ, Act.put, List.setIfInBounds_toArray, List.set_cons_zero, List.set_cons_succ]
      refine wpAnyH_ready (rs := [4]) (by kernel_rfl) (by simp) ?_
      refine AllReadyH.cons rfl (fun K hK => ?_) AllReadyH.nil
      go_simp
      refine hK.out _ _ trivial (fun _ => ?_)
      clear hK K
      try simp only [List.getElem_toArray, List.getElem_cons_zero, List.getElem_cons_succ, Act.put, List.setIfInBounds_toArray, List.set_cons_zero, List.set_cons_succ]
      refine wpAnyH_ready (rs := [10]) (by kernel_rfl) (by simp) ?_
      refine AllReadyH.cons rfl (fun K hK => ?_) AllReadyH.nil
      rw [if_pos (by rfl)]
      refine wp_appS (.tmp 23) (.tmp 28) _ rfl base 2 54 _ _ 32 Try.underlying46 HJ.out HY0.out HY1.out HY2.out rfl (by decide) A n c _ rfl ((own_belowS HV.out.own HB2.out).alloc _) _ ⟨w2.heap.size, 0, none⟩ 1 1 [.int .u64 (stamp : Int), .slice A2 nk c2] rfl rfl (Rd.new w2 _ _ _ rfl) (by intro u hu; simp at hu; rcases hu with rfl | rfl <;> rfl) (by unfold maxLen; omega) (by omega) (by have := HG.out; simp; omega) ?_
      intro A4 c4 w4 ho4 hg4 hb4
      have HBK2 := Lib.hid ((HV.out.blk.below HB2.out HV.out.blk.lt).alloc (.cells #[.int .u64 (stamp : Int), .slice A2 nk c2] 54))
      have HSM4 := Lib.hid (Same.grown (ts := [54]) ((own_belowS HV.out.own HB2.out).alloc (.cells #[.int .u64 (stamp : Int), .slice A2 nk c2] 54)) hg4 (by decide))
      have HBK4 := Lib.hid (HBK2.out.same HSM4.out (by decide))
      have HO4 := Lib.hid ho4
      have HB4 := Lib.hid hb4
      have HG4 := Lib.hid hg4
      have q4 := HBK4.out.cell 0
      have q5 := HBK4.out.frozen 0
      clear ho4 hb4 hg4
      refine hK.out _ _ trivial (fun _ => ?_)
      clear hK K
      try simp only [List.getElem_toArray, List.getElem_cons_zero, List.getElem_cons_succ, Act.put, List.setIfInBounds_toArray, List.set_cons_zero, List.set_cons_succ]
      refine wpAnyH_take (i := 11) (v := ?_) rfl (by kernel_rfl) (by kernel_rfl) (by kernel_rfl) (fun _ _ _ h => h) (Or.inl ⟨by rfl, ?_⟩) trivial ?_
      rotate_left
      · intro wS hSw
        go_simp
        try with_reducible rfl
      try simp only [List.getElem_toArray, List.getElem_cons_zero, List.getElem_cons_succ, Act.put, List.setIfInBounds_toArray, List.set_cons_zero, List.set_cons_succ]
      refine wpAnyH_take (i := 12) (v := ?_) rfl (by kernel_rfl) (by kernel_rfl) (by kernel_rfl) (fun _ _ _ h => h) (Or.inl ⟨by rfl, ?_⟩) trivial ?_
      rotate_left
      · intro wS hSw
        go_simp
        try with_reducible rfl
      try simp only [List.getElem_toArray, List.getElem_cons_zero, List.getElem_cons_succ, Act.put, List.setIfInBounds_toArray, List.set_cons_zero, List.set_cons_succ]
      refine wpAnyH_ready (rs := [13]) (by kernel_rfl) (by simp) ?_
      refine AllReadyH.cons rfl (fun K hK => ?_) AllReadyH.nil
      go_simp
      refine hK.out _ _ trivial (fun _ => ?_)
      clear hK K
      try simp only [List.getElem_toArray, List.getElem_cons_zero, List.getElem_cons_succ, Act.put, List.setIfInBounds_toArray, List.set_cons_zero, List.set_cons_succ]
      refine wpAnyH_done (by kernel_rfl) ?_ _
      have HBK5 : Hid (Blk (w4.setCell ⟨g, 0, none⟩ (.slice A4 (n + 1) c4)) g 49 #[.slice A4 (n + 1) c4, .map (some b), .int .u64 (last : Int)]) := HBK4.out.set 0 _
      have HSC := Lib.hid (Same.setCell (ts := [49]) (i := 0) HBK4.out (by decide) (.slice A4 (n + 1) c4))
      have HO5 : Hid ((w4.setCell ⟨g, 0, none⟩ (.slice A4 (n + 1) c4)).ownsRow base 54 2 (.slice A4 (n + 1) c4) (n + 1) (noteCells (rows ++ [(stamp, .slice A2 nk c2)]))) := by
        rw [noteCells_snoc]
        exact own_same HO4.out HSC.out (by decide)
      have HCH : Hid (Chg base w' (w4.setCell ⟨g, 0, none⟩ (.slice A4 (n + 1) c4))) := by
        have hbw : base ≤ w'.heap.size := Nat.le_trans HG.out (Nat.le_of_lt hgl)
        have e1 : Chg base w' (w2.alloc (.cells #[.int .u64 (stamp : Int), .slice A2 nk c2] 54)) := Chg.of (HB2.out.alloc hz2s _) hbw
        exact (e1.trans ⟨HB4.out, HSM4.out.more (by decide)⟩).trans ⟨(Below.refl base w4).setCell HG.out _, HSC.out.more (by decide)⟩
      have HM5 : Hid (MapIs (w4.setCell ⟨g, 0, none⟩ (.slice A4 (n + 1) c4)) b (N + 0) (Vrd.note f stamp (keys.take 0))) := by
        have hm2 := (HV.out.map.below HB2.out).below ((Below.refl _ _).alloc (Nat.le_refl _) (.cells #[.int .u64 (stamp : Int), .slice A2 nk c2] 54))
        have hne : b ≠ g := fun e => HV.out.map.noCell HV.out.blk.ty e.symm
        rw [Vrd.note_none, Nat.add_zero]
        have hm4 : MapIs w4 b N f := hm2.heap (HG4.out.block b hm2.lt (fun e => hm2.noCell (own_blockV ((own_belowS HV.out.own HB2.out).alloc (.cells #[.int .u64 (stamp : Int), .slice A2 nk c2] 54)) e.symm).1 rfl))
        exact hm4.heap (heap_setCell_other w4 ⟨g, 0, none⟩ b _ hne)
      have HNT : Hid (NtI base g (rows ++ [(stamp, .slice A2 nk c2)]) last N f stamp keys A4 (n + 1) c4 b w' 0 (w4.setCell ⟨g, 0, none⟩ (.slice A4 (n + 1) c4))) := ⟨HBK5.out, HO5.out, HM5.out, HCH.out⟩
      clear q0 q2 q3 q4 q5 h0 h1 h2 f0 HBK2 HSM4 HBK4 HO4 HB4 HG4 HBK5 HSC HO5 HCH HM5 HB2 hz2s
      generalize (w4.setCell ⟨g, 0, none⟩ (.slice A4 (n + 1) c4)) = w5 at *
      go_wp2
      go_loopw [34] (fun i wr => ∃ j : Nat, i = .int .i64 j ∧ j ≤ nk ∧ Hid (NtI base g (rows ++ [(stamp, .slice A2 nk c2)]) last N f stamp keys A4 (n + 1) c4 b w' j wr)) (fun i _ => nk - (intOf i).toNat)
      case atStart => exact ⟨0, rfl, Nat.zero_le _, HNT⟩
      case round =>
        clear HNT
        obtain ⟨j, rfl, hjn, hI⟩ := hrel
        have r0 := hI.out.blk.cell 1
        have r2 := hI.out.blk.cell 2
        have r1 := hI.out.blk.frozen 2
        by_cases hlt : j < nk
        · have hjk : j < keys.length := by rw [HNK.out]; exact hlt
          obtain ⟨ad, rfl, hc⟩ := (HK.out.chg hI.out.chg.below hI.out.chg.same (by decide)).cell hjk
          have HSZ := Lib.hid (HS.out _ (List.getElem_mem hjk))
          have HNX := Lib.hid (fun w1 hm hg => NtI.next (w1 := w1) hI.out hjk HB.out hm hg)
          have HMP := Lib.hid hI.out.map
          generalize keys[j] = s at *
          clear hI hjk
          go_wp2_with (at_mapUpdate; refine wpList_storeV rfl (.tmp 41) (.tmp 42) (.tmp 43) rfl rfl HMP.out (by unfold maxLen; omega) s rfl HSZ.out stamp rfl hst2 ?_; intro w6 hm6 hg6; have HX := Lib.hid (HNX.out w6 hm6 hg6); clear hm6 hg6)
          exact ⟨⟨j + 1, by go_num, hlt, HX⟩, by simp [intOf]; omega⟩
        · obtain rfl : j = nk := by omega
          have HIX := Lib.hid hI.out
          clear hI
          go_wp2
          go_ret
          have hsc := Same.setCell (ts := [49]) (i := 2) HIX.out.blk (by decide) (.int .u64 (stamp : Int))
          have hne : b ≠ g := fun e => HIX.out.map.noCell HIX.out.blk.ty e.symm
          have hm := HIX.out.map.heap (heap_setCell_other wr ⟨g, 2, none⟩ b (.int .u64 (stamp : Int)) hne)
          rw [List.take_of_length_le (by rw [HNK.out]; exact Nat.le_refl _)] at hm
          refine ⟨rfl, ⟨.slice A2 j c2, A4, c4, rfl, ⟨HIX.out.blk.set 2 _, own_same HIX.out.own hsc (by decide), by rw [HNK.out]; exact hm, ?_, HG.out, HB.out⟩⟩, HIX.out.chg.trans ⟨(Below.refl base wr).setCell HG.out _, hsc.more (by decide)⟩⟩
          rw [List.length_append, HV.out.hn]
          rfl
/-- A stamp that is none: nothing is noted. -/
theorem vdNote0 (h : Vd w base g rows last N f A n c b) (stamp : Nat) (hst : stamp ≤ last) (v : Value) :
    Calls Try.prog 10 #[.pointer (some ⟨g, 0, none⟩), .int .u64 (stamp : Int), v] w fun e w' => e = .returned (.bool false) ∧ w' = w := by
  have h2 := h.c2
  have HNO := Lib.hid (vdNone g b w h.c1)
  have hd : decide ((stamp : Int) ≤ (last : Int)) = true := by simp; omega
  clear h
  go_enter Try.func10, Try.ntmps10
  go_wp2_with (go_at_call 16; refine HNO.out.mono ?_; rintro e w' ⟨rfl, rfl⟩)
  go_ret
  exact ⟨rfl, rfl⟩
end Cib
