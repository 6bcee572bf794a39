/- The law MatrixInverts: of full rank; the law. -/
import Derived.Test.YtnicfpkadiamaaaMatL3
set_option linter.unusedVariables false
set_option linter.unusedSimpArgs false
set_option maxRecDepth 40000
namespace Cib
open Go Go.RowKit Go.Proofs
/-- A matrix of the call's own in a variable of the call's own. -/
structure BxS (w : World) (N n g : Nat) (A : Option Addr) (k : Nat) (L : List UInt8) (wr : World) : Prop where
  blk : Blk wr g 24 #[.int .i64 N, .int .i64 N, .slice A n k]
  own : wr.ownsRow w.heap.size 5 1 (.slice A n k) n (L.map bv)
theorem BxS.via {w wr w' : World} {N n g : Nat} {A : Option Addr} {k : Nat} {L : List UInt8} (h : BxS w N n g A k L wr) (hb : Below wr.heap.size wr w') : BxS w N n g A k L w' := ⟨h.blk.below hb h.blk.lt, own_belowS h.own hb⟩
theorem BxS.new {w wr : World} {N n b : Nat} {A : Option Addr} {k : Nat} {L : List UInt8} (ho : wr.ownsRow b 5 1 (.slice A n k) n (L.map bv)) (hb : w.heap.size ≤ b) : BxS w N n wr.heap.size A k L (wr.alloc (.cells #[.int .i64 N, .int .i64 N, .slice A n k] 24)) :=
  ⟨Blk.new _ _ _, own_lowerS (own_belowS ho ((Below.refl _ _).alloc (Nat.le_refl _) _)) hb⟩
theorem BxS.cells {w wr : World} {N n g : Nat} {A : Option Addr} {k : Nat} {L : List UInt8} (h : BxS w N n g A k L wr) : wr.cell? ⟨g, 0, none⟩ = some (.int .i64 (N : Int)) ∧ wr.cell? ⟨g, 1, none⟩ = some (.int .i64 (N : Int)) ∧ wr.cell? ⟨g, 2, none⟩ = some (.slice A n k) := ⟨h.blk.cell 0, h.blk.cell 1, h.blk.cell 2⟩
theorem same_one {w W : World} {N n g g' : Nat} {A A' : Option Addr} {k k' : Nat} {L : List UInt8} (h : BxS w N n g A k L W) (h' : BxS w N n g' A' k' L W) (hl : L.length = n) :
    Calls Try.prog 14 #[.agg #[.int .i64 N, .int .i64 N, .slice A n k], .agg #[.int .i64 N, .int .i64 N, .slice A' n k']] W fun e w' => e = .returned (.bool true) ∧ Below W.heap.size W w' := by
  have := refSame4 N N A n k L N N A' n k' L W W.heap.size (Nat.le_refl _) (Rd.of_own h.own) hl (Rd.of_own h'.own) hl
  rw [show smB N N L N N L = true by simp [smB]] at this
  exact this
set_option maxHeartbeats 4000000 in
theorem lawInvertsFull (N : Nat) (A : Option Addr) (n k : Nat) (bs : List UInt8) (w : World) (h : Rd w w.heap.size A (bs.map bv)) (hbs : bs.length = N * N) (hn : n = N * N) (hk : n ≤ k) (hm : k ≤ maxLen) (h150 : n ≤ 150) (hN1 : 1 ≤ N) (hN2 : N ≤ 255) (hfull : ¬ Lin.rankF N N bs < N) :
    Calls Try.prog 3 #[.agg (mv N N A n k)] w fun e w' => e = .returned (.bool true) ∧ Below w.heap.size w w' := by
  have HS := Lib.hid (fun W => lawStands W)
  have hal : Below w.heap.size w (w.alloc (.cells (mv N N A n k) 24)) := (Below.refl _ _).alloc (Nat.le_refl _) _
  have HAL := Lib.hid hal
  have HM := Lib.hid (Blk.new w 24 (mv N N A n k))
  have HF := Lib.hid fun W => lawFew4 N N A n k (Nat.le_trans hk hm) W
  rw [decide_eq_true h150] at HF
  have hpos : 0 < bs.length := by rw [hbs]; exact Nat.mul_pos hN1 hN1
  have HIV : Hid (∀ g W, Fld W g → Below w.heap.size w W → w.heap.size ≤ g → Calls Try.prog 12 #[.pointer (some ⟨g, 0, none⟩), .agg (mv N N A n k)] W fun e w' => ∃ X, Lin.mulL N N N bs X = Lin.oneL N ∧ Lin.mulL N N N X bs = Lin.oneL N ∧ X.length = n ∧ ∃ A4 k4, e = .returned (.tuple #[.agg (mv N N A4 n k4), .int .i64 0]) ∧ w'.ownsRow W.heap.size 5 1 (.slice A4 n k4) n (X.map bv) ∧ Stp g W w') := Lib.hid fun g W hW hb hg => by
    have := matInvert g N A k bs W hW ((h.below hb).more hb.size) (apart_of h hpos hg) hbs (by omega) hN1 hN2
    rw [← hn] at this
    refine this.mono fun e w' hi => ?_
    rcases hi with ⟨X, hX, A4, k4, he, hXl, ho, hs⟩ | ⟨r, hr, hrk, _⟩
    · rw [← hn] at he hXl ho
      exact ⟨X, Lin.mulL_one hN1 hX.r, Lin.mulL_one hN1 hX.l, hXl, A4, k4, he, ho, hs⟩
    · have := hrk.eq (Lin.rankF_rk hbs)
      omega
  have HID := Lib.hid fun W => refIdentity4 N hN1 hN2 W
  unfold NewE at HID
  rw [← hn] at HID
  have HMA := Lib.hid fun A4 k4 (X : List UInt8) W (hX : Rd W W.heap.size A4 (X.map bv)) (hXl : X.length = n) (hk4 : n ≤ k4) (hb : Below w.heap.size w W) => refMul4 N N N A A4 n k n k4 bs X W W.heap.size (Nat.le_refl _) ((h.below hb).more hb.size) hX hbs (by omega) hn hn hk hk4 ⟨hN1, hN2⟩ ⟨hN1, hN2⟩ ⟨hN1, hN2⟩
  have HMB := Lib.hid fun A4 k4 (X : List UInt8) W (hX : Rd W W.heap.size A4 (X.map bv)) (hXl : X.length = n) (hk4 : n ≤ k4) (hb : Below w.heap.size w W) => refMul4 N N N A4 A n k4 n k X bs W W.heap.size (Nat.le_refl _) hX ((h.below hb).more hb.size) (by omega) hbs hn hn hk4 hk ⟨hN1, hN2⟩ ⟨hN1, hN2⟩ ⟨hN1, hN2⟩
  unfold NewE at HMA HMB
  rw [← hn] at HMA HMB
  have HNV := Lib.hid fun W => nilInvert N N A n k W
  have hlK : decide (((Lin.rankF N N bs : Nat) : Int) < (N : Int)) = false := decide_eq_false (by omega)
  have hlK2 : decide (Lin.rankF N N bs < N) = false := decide_eq_false hfull
  have HRG := Lib.hid fun W => refRight4 N N A n k W
  rw [show mr (N : Int) (N : Int) n = true from mr_true.2 ⟨by omega, by omega, by rw [hn]; simp⟩] at HRG
  have HRR := Lib.hid fun W (hb : Below w.heap.size w W) => refRank4 N N A n k bs W w.heap.size hb.size (h.below hb) hbs hn hk hN1 hN2 hN1 hN2
  generalize Lin.rankF N N bs = K at *
  unfold mv at HAL HM HF HRG HIV HRR HID HMA HMB HNV ⊢
  clear hal h hn hbs hpos
  go_enter Try.func3, Try.ntmps3
  go_wp2_with fail
  refine (HF.out _).mono ?_
  rintro e w2 ⟨rfl, hb2⟩
  have HM2 := Lib.hid (HM.out.below hb2 HM.out.lt)
  have HB2 := Lib.hid (HAL.out.via hb2)
  clear hb2
  go_wp2_with fail
  refine (fldNewA w2).mono ?_
  rintro e w3 ⟨rfl, hf3, hs3, hb3⟩
  have HF3 := Lib.hid hf3
  have hb23 := hb3 w2.heap.size w2 (Nat.le_refl _) (Below.refl _ _)
  have HM3 := Lib.hid (HM2.out.below hb23 HM2.out.lt)
  have HB3 := Lib.hid (HB2.out.via hb23)
  have hz2 := HB2.out.size
  have hlm := HM2.out.lt
  have m0 := HM3.out.cell 0
  have m1 := HM3.out.cell 1
  have m2 := HM3.out.cell 2
  simp only [List.getElem?_toArray, List.getElem?_cons_zero, List.getElem?_cons_succ] at m0 m1 m2
  clear hf3 hs3 hb3 hb23
  go_wp2_with fail
  refine (HIV.out _ _ HF3.out HB3.out hz2).mono ?_
  rintro e w4 ⟨X, hXa, hXb, hXl, A4, k4, rfl, ho4, hs4⟩
  have HM4 : Hid (Blk (w4.alloc (.cells #[.int .i64 N, .int .i64 N, .slice A4 n k4] 24)) w.heap.size 24 #[.int .i64 N, .int .i64 N, .slice A n k]) := Lib.hid (Blk.alloc (w := w4) ((hs4.oth w.heap.size HM3.out.lt (by omega)).trans HM3.out) _)
  have HX4 := Lib.hid (Blk.new w4 24 #[.int .i64 N, .int .i64 N, .slice A4 n k4])
  have hb4 := hs4.below HB3.out hz2 HB3.out.size
  have hlt4 : w.heap.size < w4.heap.size := Nat.lt_of_lt_of_le HM3.out.lt hs4.size
  have hal4 := (Below.refl w4.heap.size w4).alloc (Nat.le_refl _) (.cells #[.int .i64 N, .int .i64 N, .slice A4 n k4] 24)
  have HO4 := Lib.hid (own_belowS ho4 hal4)
  have HXL := Lib.hid hXl
  have HXA := Lib.hid hXa
  have HXB := Lib.hid hXb
  have hcap4 := (own_cap ho4).1
  have HB4 := Lib.hid (hb4.via hal4)
  have HF4 := Lib.hid (hs4.full.on hal4)
  clear hs4 hb4 hal4 ho4 hXl hXa hXb m0 m1 m2
  have n0 := HM4.out.cell 0
  have n1 := HM4.out.cell 1
  have n2 := HM4.out.cell 2
  simp only [List.getElem?_toArray, List.getElem?_cons_zero, List.getElem?_cons_succ] at n0 n1 n2
  go_upto_region 5 with fail
  generalize w4.alloc _ = w5 at *
  generalize hg4 : w4.heap.size = g4 at *
  clear hg4
  go_wp2_with fail
  refine (HRG.out _).mono ?_
  rintro e w6 ⟨rfl, hb6⟩
  have HM6 := Lib.hid (HM4.out.below hb6 HM4.out.lt)
  have HX6 := Lib.hid (HX4.out.below hb6 HX4.out.lt)
  have HB6 := Lib.hid (HB4.out.via hb6)
  have HO6 := Lib.hid (own_belowS HO4.out hb6)
  have m0 := HM6.out.cell 0
  have m1 := HM6.out.cell 1
  simp only [List.getElem?_toArray, List.getElem?_cons_zero, List.getElem?_cons_succ] at m0 m1
  have hl6 := HM6.out.lt
  have hc0 : Hid (w6.cell? ⟨w.heap.size, 0, none⟩ = some (.int .i64 (N : Int))) := Lib.hid (HM6.out.cell 0)
  have hc1 : Hid (w6.cell? ⟨w.heap.size, 1, none⟩ = some (.int .i64 (N : Int))) := Lib.hid (HM6.out.cell 1)
  have hc2 : Hid (w6.cell? ⟨w.heap.size, 2, none⟩ = some (.slice A n k)) := Lib.hid (HM6.out.cell 2)
  clear hb6 n0 n1 n2 HM4 HX4 HB4 HF4 HO4
  go_wp2
  clear m0 m1
  refine wp_region_held_drew (S := (fun wQq => Below (World.heap (w6.drew)).size (w6.drew) wQq)) (by kernel_rfl) (by exact Below.refl _ _) (fun _ => ?_)
  refine wpAnyH_take (i := 2) (v := ?_) rfl (by kernel_rfl) (by kernel_rfl) (by kernel_rfl) (fun _ _ _ h => h) (Or.inl ⟨by rfl, ?_⟩) (Below.refl _ _) ?_
  rotate_left
  · intro wS hSw
    go_simp
    try with_reducible rfl
  try simp only [List.getElem_toArray, List.getElem_cons_zero, List.getElem_cons_succ, Act.put, List.setIfInBounds_toArray, List.set_cons_zero, List.set_cons_succ]
  refine wpAnyH_take (i := 0) (v := ?_) rfl (by kernel_rfl) (by kernel_rfl) (by kernel_rfl) (fun _ _ _ h => h) (Or.inl ⟨by rfl, ?_⟩) (Below.refl _ _) ?_
  rotate_left
  · intro wS hSw
    have hcv := ((hSw.cell (p := ⟨w.heap.size, 0, none⟩) (by exact hl6)).trans hc0.out)
    have hcv1 := ((hSw.cell (p := ⟨w.heap.size, 1, none⟩) (by exact hl6)).trans hc1.out)
    have hcv2 := ((hSw.cell (p := ⟨w.heap.size, 2, none⟩) (by exact hl6)).trans hc2.out)
    go_simp
    try with_reducible rfl
  try simp only [List.getElem_toArray, List.getElem_cons_zero, List.getElem_cons_succ, Act.put, List.setIfInBounds_toArray, List.set_cons_zero, List.set_cons_succ]
  refine wpAnyH_take (i := 3) (v := ?_) rfl (by kernel_rfl) (by kernel_rfl) (by kernel_rfl) (fun _ _ _ h => h) (Or.inl ⟨by rfl, ?_⟩) (Below.refl _ _) ?_
  rotate_left
  · intro wS hSw
    have hcv := ((hSw.cell (p := ⟨w.heap.size, 0, none⟩) (by exact hl6)).trans hc0.out)
    go_simp
    try with_reducible rfl
  try simp only [List.getElem_toArray, List.getElem_cons_zero, List.getElem_cons_succ, Act.put, List.setIfInBounds_toArray, List.set_cons_zero, List.set_cons_succ]
  refine wpAnyH_ready (rs := [1]) (by kernel_rfl) (by simp) ?_
  refine AllReadyH.cons rfl (fun K hK => ?_) AllReadyH.nil
  go_simp
  refine (HRR.out _ (below_drewN HB6.out 1)).mono ?_
  rintro e w7 ⟨rfl, hb7⟩
  have HB7 : Hid (Below w6.drew.heap.size w6.drew w7) := Lib.hid hb7
  clear hb7
  refine hK.out _ _ HB7.out (fun _ => ?_)
  clear hK K
  try simp only [List.getElem_toArray, List.getElem_cons_zero, List.getElem_cons_succ, Act.put, List.setIfInBounds_toArray, List.set_cons_zero, List.set_cons_succ]
  refine wpAnyH_take (i := 4) (v := ?_) rfl (by kernel_rfl) (by kernel_rfl) (by kernel_rfl) (fun _ _ _ h => h) (Or.inl ⟨by rfl, ?_⟩) HB7.out ?_
  rotate_left
  · intro wS hSw
    go_simp
    try with_reducible rfl
  try simp only [List.getElem_toArray, List.getElem_cons_zero, List.getElem_cons_succ, Act.put, List.setIfInBounds_toArray, List.set_cons_zero, List.set_cons_succ]
  refine wpAnyH_done (by kernel_rfl) ?_ _
  have hb67 := (below_drewN (Below.refl w6.heap.size w6) 1).trans HB7.out
  have HM7 := Lib.hid (HM6.out.below hb67 HM6.out.lt)
  have HX7 := Lib.hid (HX6.out.below hb67 HX6.out.lt)
  have HBW := Lib.hid (HB6.out.via hb67)
  have HO7 := Lib.hid (own_belowS HO6.out hb67)
  clear hb67 HB7 hc0 hc1 hc2 HM6 HX6 HB6 HO6
  have n0 := HM7.out.cell 0
  simp only [List.getElem?_toArray, List.getElem?_cons_zero, List.getElem?_cons_succ] at n0
  go_wp2_with fail
  refine (HID.out _).mono ?_
  rintro e w8 ⟨A8, k8, rfl, hl8, ho8, hb8⟩
  have HB4S := Lib.hid (⟨HX7.out, own_lowerS HO7.out HB3.out.size⟩ : BxS w N n g4 A4 k4 X w7)
  have hln := Lib.hid hl8
  have hz7 := HBW.out.size
  have hal8 := (Below.refl w8.heap.size w8).alloc (Nat.le_refl _) (.cells #[.int .i64 N, .int .i64 N, .slice A8 n k8] 24)
  have HONE := Lib.hid (BxS.new (w := w) (N := N) ho8 hz7)
  have hb9 := hb8.trans (hal8.mono hb8.size)
  have HM9 := Lib.hid (HM7.out.below hb9 HM7.out.lt)
  have HX9 := Lib.hid (HB4S.out.via hb9)
  have HB9 := Lib.hid (HBW.out.via hb9)
  have hlt8 : w.heap.size < w8.heap.size := Nat.lt_of_lt_of_le HM7.out.lt hb8.size
  have hlt8g : g4 < w8.heap.size := Nat.lt_of_lt_of_le HX7.out.lt hb8.size
  clear hb8 ho8 hl8 hal8 hb9 n0 HM7 HX7 HBW HO7 HB4S
  obtain ⟨m0, m1, m2⟩ : _ ∧ _ ∧ _ := ⟨HM9.out.cell 0, HM9.out.cell 1, HM9.out.cell 2⟩
  obtain ⟨x0, x1, x2⟩ := HX9.out.cells
  simp only [List.getElem?_toArray, List.getElem?_cons_zero, List.getElem?_cons_succ] at m0 m1 m2
  go_upto_region 10 with fail
  generalize w8.alloc _ = w9 at *
  generalize w8.heap.size = g6 at *
  have HMA2 := Lib.hid (HMA.out A4 k4 X w9 (Rd.of_own HX9.out.own) HXL.out hcap4 HB9.out)
  rw [HXA.out] at HMA2
  clear HMA
  go_wp2_with fail
  refine HMA2.out.mono ?_
  rintro e w10 ⟨A10, k10, rfl, hl10, ho10, hb10⟩
  have hal10 := (Below.refl w10.heap.size w10).alloc (Nat.le_refl _) (.cells #[.int .i64 N, .int .i64 N, .slice A10 n k10] 24)
  have HPA := Lib.hid (BxS.new (w := w) (N := N) ho10 HB9.out.size)
  have hb11 := hb10.trans (hal10.mono hb10.size)
  have HM11 := Lib.hid (HM9.out.below hb11 HM9.out.lt)
  have HX11 := Lib.hid (HX9.out.via hb11)
  have HONE2 := Lib.hid (HONE.out.via hb11)
  have HB11 := Lib.hid (HB9.out.via hb11)
  have hlt10 : w.heap.size < w10.heap.size := Nat.lt_of_lt_of_le HM9.out.lt hb10.size
  have hlt10g : g4 < w10.heap.size := Nat.lt_of_lt_of_le HX9.out.blk.lt hb10.size
  clear hb10 ho10 hl10 hal10 hb11 m0 m1 m2 x0 x1 x2 HM9 HX9 HB9 HONE HMA2 hlt8 hlt8g
  obtain ⟨m0, m1, m2⟩ : _ ∧ _ ∧ _ := ⟨HM11.out.cell 0, HM11.out.cell 1, HM11.out.cell 2⟩
  obtain ⟨x0, x1, x2⟩ := HX11.out.cells
  simp only [List.getElem?_toArray, List.getElem?_cons_zero, List.getElem?_cons_succ] at m0 m1 m2
  go_upto_region 11 with fail
  generalize w10.alloc _ = w11 at *
  generalize w10.heap.size = g8 at *
  have HMB2 := Lib.hid (HMB.out A4 k4 X w11 (Rd.of_own HX11.out.own) HXL.out hcap4 HB11.out)
  rw [HXB.out] at HMB2
  clear HMB
  go_wp2_with fail
  refine HMB2.out.mono ?_
  rintro e w12 ⟨A12, k12, rfl, hl12, ho12, hb12⟩
  have hal12 := (Below.refl w12.heap.size w12).alloc (Nat.le_refl _) (.cells #[.int .i64 N, .int .i64 N, .slice A12 n k12] 24)
  have HPB := Lib.hid (BxS.new (w := w) (N := N) ho12 HB11.out.size)
  have hb13 := hb12.trans (hal12.mono hb12.size)
  have HM13 := Lib.hid (HM11.out.below hb13 HM11.out.lt)
  have HONE3 := Lib.hid (HONE2.out.via hb13)
  have HPA2 := Lib.hid (HPA.out.via hb13)
  have HB13 := Lib.hid (HB11.out.via hb13)
  have hlt12 : w.heap.size < w12.heap.size := Nat.lt_of_lt_of_le HM11.out.lt hb12.size
  clear hb12 ho12 hl12 hal12 hb13 m0 m1 m2 x0 x1 x2 HM11 HX11 HB11 HONE2 HPA HMB2 hlt10 hlt10g
  obtain ⟨m0, m1, m2⟩ : _ ∧ _ ∧ _ := ⟨HM13.out.cell 0, HM13.out.cell 1, HM13.out.cell 2⟩
  simp only [List.getElem?_toArray, List.getElem?_cons_zero, List.getElem?_cons_succ] at m0 m1 m2
  go_upto_region 12 with fail
  generalize w12.alloc _ = w13 at *
  generalize w12.heap.size = g10 at *
  go_wp2_with fail
  refine (HNV.out _).mono ?_
  rintro e w14 ⟨rfl, hb14⟩
  have hal14 := (Below.refl w14.heap.size w14).alloc (Nat.le_refl _) (.cells #[.int .i64 0, .int .i64 0, .slice none 0 0] 24)
  have hb15 := hb14.trans (hal14.mono hb14.size)
  have HONE4 := Lib.hid (HONE3.out.via hb15)
  have HPA3 := Lib.hid (HPA2.out.via hb15)
  have HPB2 := Lib.hid (HPB.out.via hb15)
  have HB15 := Lib.hid (HB13.out.via hb15)
  have l6 : g6 < w14.heap.size := Nat.lt_of_lt_of_le HONE3.out.blk.lt hb14.size
  have l8 : g8 < w14.heap.size := Nat.lt_of_lt_of_le HPA2.out.blk.lt hb14.size
  have l10 : g10 < w14.heap.size := Nat.lt_of_lt_of_le HPB.out.blk.lt hb14.size
  clear hb14 hal14 hb15 m0 m1 m2 HM13 HONE3 HPA2 HPB HB13 HNV
  go_upto_region 13 with fail
  generalize w14.alloc _ = w15 at *
  generalize w14.heap.size = g12 at *
  obtain ⟨o0, o1, o2⟩ := HONE4.out.cells
  obtain ⟨p0, p1, p2⟩ := HPA3.out.cells
  have HSA := Lib.hid (same_one HPA3.out HONE4.out hln.out)
  go_wp2_with fail
  refine HSA.out.mono ?_
  rintro e w16 ⟨rfl, hb16⟩
  have HONE5 := Lib.hid (HONE4.out.via hb16)
  have HPB3 := Lib.hid (HPB2.out.via hb16)
  have HB16 := Lib.hid (HB15.out.via hb16)
  clear hb16 o0 o1 o2 p0 p1 p2 HSA
  obtain ⟨o0, o1, o2⟩ := HONE5.out.cells
  obtain ⟨p0, p1, p2⟩ := HPB3.out.cells
  have HSB := Lib.hid (same_one HPB3.out HONE5.out hln.out)
  go_wp2_with fail
  refine HSB.out.mono ?_
  rintro e w17 ⟨rfl, hb17⟩
  have HB17 := Lib.hid (HB16.out.via hb17)
  clear hb17 o0 o1 o2 p0 p1 p2
  go_wp2_with fail
  refine (HS.out _).mono ?_
  rintro e w18 ⟨rfl, hb18⟩
  go_wp2
  go_ret
  exact ⟨rfl, HB17.out.via hb18⟩
/-- The law MatrixInverts, of every matrix. -/
theorem lawInverts (r c : Int) (A : Option Addr) (n k : Nat) (bs : List UInt8) (w : World) (h : Rd w w.heap.size A (bs.map bv)) (hn : bs.length = n) (hk : n ≤ k) (hm : k ≤ maxLen) :
    Calls Try.prog 3 #[.agg (mv r c A n k)] w fun e w' => e = .returned (.bool true) ∧ Below w.heap.size w w' := by
  by_cases h150 : 150 < n
  · exact lawInvertsNo r c A n k bs w h hn hk hm (.inl h150)
  by_cases hmr : mr r c n = false
  · exact lawInvertsNo r c A n k bs w h hn hk hm (.inr (.inl hmr))
  by_cases hrc : r = c
  · subst hrc
    obtain ⟨⟨h1, h2⟩, -, h3⟩ := mr_true.1 (Bool.of_not_eq_false hmr)
    obtain ⟨N, rfl⟩ := Int.eq_ofNat_of_zero_le (show 0 ≤ r by omega)
    have hN : n = N * N := by exact_mod_cast h3
    by_cases hlow : Lin.rankF N N bs < N
    · exact lawInvertsLow N A n k bs w h (hn.trans hN) hN hk hm (by omega) (by omega) (by omega) hlow
    · exact lawInvertsFull N A n k bs w h (hn.trans hN) hN hk hm (by omega) (by omega) (by omega) hlow
  · exact lawInvertsNo r c A n k bs w h hn hk hm (.inr (.inr hrc))
end Cib
