/- The law MatrixRanks. -/
import Derived.Test.YtnicfpkadiamaaaMatLw
import Derived.Test.YtnicfpkadiamaaaMatU
set_option linter.unusedVariables false
set_option linter.unusedSimpArgs false
set_option maxRecDepth 40000
namespace Cib
open Go Go.RowKit Go.Proofs
/-- The numbers of a right matrix lie apart from what is younger. -/
theorem apart_of {w : World} {A : Option Addr} {bs : List UInt8} (h : Rd w w.heap.size A (bs.map bv)) (h0 : 0 < bs.length) {g : Nat} (hg : w.heap.size ≤ g) : ∀ ad, A = some ad → ad.block ≠ g := fun ad e => by
  obtain ⟨ad', e', hb, _⟩ := h (by intro e; rw [List.map_eq_nil_iff] at e; rw [e] at h0; simp at h0)
  rw [e] at e'
  injection e' with e'
  subst e'
  omega
set_option maxHeartbeats 2000000 in
theorem lawRanks (r c : Int) (A : Option Addr) (n k : Nat) (bs : List UInt8) (w : World) (h : Rd w w.heap.size A (bs.map bv)) (hn : bs.length = n) (hk : n ≤ k) (hm : k ≤ maxLen) :
    Calls Try.prog 4 #[.agg (mv r c A n k)] w fun e w' => e = .returned (.bool true) ∧ Below w.heap.size w w' := by
  have HS := Lib.hid (fun W => lawStands W)
  have hal : Below w.heap.size w (w.alloc (.cells (mv r c A n k) 24)) := (Below.refl _ _).alloc (Nat.le_refl _) _
  have HAL := Lib.hid hal
  have HM := Lib.hid (Blk.new w 24 (mv r c A n k))
  have HF := Lib.hid fun W => lawFew4 r c A n k (Nat.le_trans hk hm) W
  by_cases hfew : n ≤ 150
  · rw [decide_eq_true hfew] at HF
    have HNR := Lib.hid fun W => nilRank (mv r c A n k) W
    have HRG := Lib.hid fun W => refRight4 r c A n k W
    obtain ⟨b, hb⟩ : ∃ b, mr r c n = b := ⟨_, rfl⟩
    rw [hb] at HRG
    cases b
    · have HRK := Lib.hid fun g W (hW : Fld W g) => matRankNo g r c A n k W hW (by omega) hb
      have HRR := Lib.hid fun W => refRankNo4 r c A n k hb W
      unfold mv at HAL HM HF HNR HRG HRK HRR ⊢
      clear hal h hb hn
      go_enter Try.func4, Try.ntmps4
      go_wp2_with fail
      refine (HF.out _).mono ?_
      rintro e w2 ⟨rfl, hb2⟩
      have HM2 := Lib.hid (HM.out.below hb2 HM.out.lt)
      have HB2 := Lib.hid (HAL.out.via hb2)
      clear hb2
      go_wp2_with fail
      refine (fldNewA w2).mono ?_
      rintro e w3 ⟨rfl, hf3, hs3, hb3⟩
      have HF3 := Lib.hid hf3
      have hb23 := hb3 w2.heap.size w2 (Nat.le_refl _) (Below.refl _ _)
      have HM3 := Lib.hid (HM2.out.below hb23 HM2.out.lt)
      have HB3 := Lib.hid (HB2.out.via hb23)
      have hz2 := HB2.out.size
      have hlm := HM2.out.lt
      have m0 := HM3.out.cell 0
      have m1 := HM3.out.cell 1
      have m2 := HM3.out.cell 2
      simp only [List.getElem?_toArray, List.getElem?_cons_zero, List.getElem?_cons_succ] at m0 m1 m2
      clear hf3 hs3 hb3 hb23
      go_wp2_with fail
      refine (HRK.out _ _ HF3.out).mono ?_
      rintro e w4 ⟨rfl, hs4⟩
      have HM4 : Hid (Blk w4 w.heap.size 24 #[.int .i64 r, .int .i64 c, .slice A n k]) := Lib.hid ((hs4.oth w.heap.size HM3.out.lt (by omega)).trans HM3.out)
      have HB4 := Lib.hid (hs4.below HB3.out hz2 HB3.out.size)
      have n0 := HM4.out.cell 0
      have n1 := HM4.out.cell 1
      have n2 := HM4.out.cell 2
      simp only [List.getElem?_toArray, List.getElem?_cons_zero, List.getElem?_cons_succ] at n0 n1 n2
      clear hs4 m0 m1 m2
      go_wp2_with fail
      refine (HRR.out _).mono ?_
      rintro e w5 ⟨rfl, hb5⟩
      have HM5 := Lib.hid (HM4.out.below hb5 HM4.out.lt)
      have HB5 := Lib.hid (HB4.out.via hb5)
      have m0 := HM5.out.cell 0
      have m1 := HM5.out.cell 1
      have m2 := HM5.out.cell 2
      simp only [List.getElem?_toArray, List.getElem?_cons_zero, List.getElem?_cons_succ] at m0 m1 m2
      clear hb5 n0 n1 n2
      go_wp2_with fail
      refine (HNR.out _).mono ?_
      rintro e w6 ⟨rfl, hb6⟩
      have HM6 := Lib.hid (HM5.out.below hb6 HM5.out.lt)
      have HB6 := Lib.hid (HB5.out.via hb6)
      have n0 := HM6.out.cell 0
      have n1 := HM6.out.cell 1
      have n2 := HM6.out.cell 2
      simp only [List.getElem?_toArray, List.getElem?_cons_zero, List.getElem?_cons_succ] at n0 n1 n2
      clear hb6 m0 m1 m2
      go_wp2_with fail
      refine (HRG.out _).mono ?_
      rintro e w7 ⟨rfl, hb7⟩
      have HB7 := Lib.hid (HB6.out.via hb7)
      clear hb7 n0 n1 n2
      go_wp2_with fail
      refine (HS.out _).mono ?_
      rintro e w8 ⟨rfl, hb8⟩
      go_wp2
      go_ret
      exact ⟨rfl, HB7.out.via hb8⟩
    · obtain ⟨hr1, hc1, hp⟩ := mr_true.1 hb
      obtain ⟨R, rfl⟩ : ∃ x : Nat, r = (x : Int) := ⟨r.toNat, by omega⟩
      obtain ⟨C, rfl⟩ : ∃ x : Nat, c = (x : Int) := ⟨c.toNat, by omega⟩
      have hnRC : n = R * C := by
        have : ((n : Nat) : Int) = ((R * C : Nat) : Int) := by rw [hp]; simp
        exact Int.ofNat.inj this
      have hpos : 0 < bs.length := by
        rw [hn, hnRC]
        exact Nat.mul_pos (by omega) (by omega)
      have hbs : bs.length = R * C := by omega
      have HRK := Lib.hid fun g W (hW : Fld W g) (hb : Below w.heap.size w W) (hg : w.heap.size ≤ g) => matRank g R C A k bs W hW ((h.below hb).more hb.size) (apart_of h hpos hg) hbs (by omega) (by omega) (by omega) (by omega) (by omega)
      rw [← hnRC] at HRK
      have HRR := Lib.hid fun W (hb : Below w.heap.size w W) => refRank4 R C A n k bs W w.heap.size hb.size (h.below hb) hbs hnRC hk (by omega) (by omega) (by omega) (by omega)
      have HTU := Lib.hid fun W (hb : Below w.heap.size w W) => refTurned4 R C A n k bs W w.heap.size hb.size (h.below hb) hbs hnRC hk (by omega) (by omega) (by omega) (by omega)
      have hrk := Lin.rankF_rk hbs
      have hle1 := hrk.le_rows
      have hle2 := hrk.le_cols
      have HTR := Lib.hid (Lin.turn_rank hrk (Lin.rankF_rk (Lin.turnL_length R C bs)))
      have HR2 := Lib.hid fun g A' k' W (hW : Fld W g) (hr' : Rd W W.heap.size A' ((Lin.turnL R C bs).map bv)) (hg : ∀ ad, A' = some ad → ad.block ≠ g) (hk' : C * R ≤ k') => matRank g C R A' k' (Lin.turnL R C bs) W hW hr' hg (Lin.turnL_length R C bs) hk' (by omega) (by omega) (by omega) (by omega)
      rw [← HTR.out] at HR2
      have hl1 : ((Lin.rankF R C bs : Nat) : Int) ≤ (R : Int) := by omega
      have hl2 : ((Lin.rankF R C bs : Nat) : Int) ≤ (C : Int) := by omega
      generalize Lin.rankF R C bs = N at *
      unfold mv at HAL HM HF HNR HRG HRK HRR HTU HR2 ⊢
      clear hal h hb hn hrk HTR hp hbs hnRC hpos
      go_enter Try.func4, Try.ntmps4
      go_wp2_with fail
      refine (HF.out _).mono ?_
      rintro e w2 ⟨rfl, hb2⟩
      have HM2 := Lib.hid (HM.out.below hb2 HM.out.lt)
      have HB2 := Lib.hid (HAL.out.via hb2)
      clear hb2
      go_wp2_with fail
      refine (fldNewA w2).mono ?_
      rintro e w3 ⟨rfl, hf3, hs3, hb3⟩
      have HF3 := Lib.hid hf3
      have hb23 := hb3 w2.heap.size w2 (Nat.le_refl _) (Below.refl _ _)
      have HM3 := Lib.hid (HM2.out.below hb23 HM2.out.lt)
      have HB3 := Lib.hid (HB2.out.via hb23)
      have hz2 := HB2.out.size
      have hlm := HM2.out.lt
      have m0 := HM3.out.cell 0
      have m1 := HM3.out.cell 1
      have m2 := HM3.out.cell 2
      simp only [List.getElem?_toArray, List.getElem?_cons_zero, List.getElem?_cons_succ] at m0 m1 m2
      clear hf3 hs3 hb3 hb23
      go_wp2_with fail
      refine (HRK.out _ _ HF3.out HB3.out hz2).mono ?_
      rintro e w4 ⟨rfl, hs4⟩
      have HF4 := Lib.hid hs4.full
      have HM4 : Hid (Blk w4 w.heap.size 24 #[.int .i64 (R : Int), .int .i64 (C : Int), .slice A n k]) := Lib.hid ((hs4.oth w.heap.size HM3.out.lt (by omega)).trans HM3.out)
      have HB4 := Lib.hid (hs4.below HB3.out hz2 HB3.out.size)
      have n0 := HM4.out.cell 0
      have n1 := HM4.out.cell 1
      have n2 := HM4.out.cell 2
      simp only [List.getElem?_toArray, List.getElem?_cons_zero, List.getElem?_cons_succ] at n0 n1 n2
      clear hs4 m0 m1 m2
      go_wp2_with fail
      refine (HRR.out _ HB4.out).mono ?_
      rintro e w5 ⟨rfl, hb5⟩
      have HF5 := Lib.hid (HF4.out.on hb5)
      have HM5 := Lib.hid (HM4.out.below hb5 HM4.out.lt)
      have HB5 := Lib.hid (HB4.out.via hb5)
      have m0 := HM5.out.cell 0
      have m1 := HM5.out.cell 1
      have m2 := HM5.out.cell 2
      simp only [List.getElem?_toArray, List.getElem?_cons_zero, List.getElem?_cons_succ] at m0 m1 m2
      clear hb5 n0 n1 n2
      go_wp2_with fail
      refine (HNR.out _).mono ?_
      rintro e w6 ⟨rfl, hb6⟩
      have HF6 := Lib.hid (HF5.out.on hb6)
      have HM6 := Lib.hid (HM5.out.below hb6 HM5.out.lt)
      have HB6 := Lib.hid (HB5.out.via hb6)
      have n0 := HM6.out.cell 0
      have n1 := HM6.out.cell 1
      have n2 := HM6.out.cell 2
      simp only [List.getElem?_toArray, List.getElem?_cons_zero, List.getElem?_cons_succ] at n0 n1 n2
      clear hb6 m0 m1 m2
      go_wp2_with fail
      refine (HRG.out _).mono ?_
      rintro e w7 ⟨rfl, hb7⟩
      have HF7 := Lib.hid (HF6.out.on hb7)
      have HM7 := Lib.hid (HM6.out.below hb7 HM6.out.lt)
      have HB7 := Lib.hid (HB6.out.via hb7)
      have m0 := HM7.out.cell 0
      have m1 := HM7.out.cell 1
      have m2 := HM7.out.cell 2
      simp only [List.getElem?_toArray, List.getElem?_cons_zero, List.getElem?_cons_succ] at m0 m1 m2
      clear hb7 n0 n1 n2
      go_wp2_with fail
      refine (HTU.out _ HB7.out).mono ?_
      rintro e w8 ⟨A8, k8, rfl, _, ho8, hb8⟩
      have HF8 := Lib.hid (HF7.out.on hb8)
      have HB8 := Lib.hid (HB7.out.via hb8)
      have hcap := (own_cap ho8).1
      have HAP : Hid (∀ ad, A8 = some ad → ad.block ≠ w2.heap.size) := Lib.hid fun ad e he => by
        subst e
        have h1 := own_at ho8 (Nat.mul_pos (by omega) (by omega))
        obtain ⟨g8, e8, hg8⟩ := h1
        injection e8 with e8
        subst e8
        have := HF7.out.lt
        simp only at he
        omega
      have HRD8 := Lib.hid (Rd.of_own ho8)
      unfold mv
      clear ho8 hb8 m0 m1 m2
      go_wp2_with fail
      refine (HR2.out _ A8 k8 w8 HF8.out.fld HRD8.out HAP.out hcap).mono ?_
      rintro e w9 ⟨rfl, hs9⟩
      have HB9 := Lib.hid (hs9.below HB8.out hz2 HB8.out.size)
      clear hs9
      go_wp2_with fail
      refine (HS.out _).mono ?_
      rintro e wa ⟨rfl, hba⟩
      go_wp2
      go_ret
      exact ⟨rfl, HB9.out.via hba⟩
  · rw [decide_eq_false hfew] at HF
    unfold mv at HAL HM HF ⊢
    clear hal h
    go_enter Try.func4, Try.ntmps4
    go_wp2_with fail
    refine (HF.out _).mono ?_
    rintro e w2 ⟨rfl, hb2⟩
    go_wp2_with fail
    refine (HS.out _).mono ?_
    rintro e w3 ⟨rfl, hb3⟩
    go_wp2
    go_ret
    exact ⟨rfl, (HAL.out.via hb2).via hb3⟩
end Cib
