/- The law MatrixInverts: what isn't right, or not square. -/
import Derived.Test.YtnicfpkadiamaaaMatL1
import Derived.Test.YtnicfpkadiamaaaMatG
set_option linter.unusedVariables false
set_option linter.unusedSimpArgs false
set_option maxRecDepth 40000
namespace Cib
open Go Go.RowKit Go.Proofs
theorem same_none (w : World) : Calls Try.prog 14 #[.agg #[.int .i64 0, .int .i64 0, .slice none 0 0], .agg #[.int .i64 0, .int .i64 0, .slice none 0 0]] w fun e w' => e = .returned (.bool true) ∧ Below w.heap.size w w' :=
  refSame4 0 0 none 0 0 [] 0 0 none 0 0 [] w 0 (Nat.zero_le _) (Rd.nil _ _ _) rfl (Rd.nil _ _ _) rfl
set_option maxHeartbeats 2000000 in
theorem lawInvertsNo (r c : Int) (A : Option Addr) (n k : Nat) (bs : List UInt8) (w : World) (h : Rd w w.heap.size A (bs.map bv)) (hn : bs.length = n) (hk : n ≤ k) (hm : k ≤ maxLen) (hno : 150 < n ∨ mr r c n = false ∨ r ≠ c) :
    Calls Try.prog 3 #[.agg (mv r c A n k)] w fun e w' => e = .returned (.bool true) ∧ Below w.heap.size w w' := by
  have HS := Lib.hid (fun W => lawStands W)
  have hal : Below w.heap.size w (w.alloc (.cells (mv r c A n k) 24)) := (Below.refl _ _).alloc (Nat.le_refl _) _
  have HAL := Lib.hid hal
  have HM := Lib.hid (Blk.new w 24 (mv r c A n k))
  have HF := Lib.hid fun W => lawFew4 r c A n k (Nat.le_trans hk hm) W
  by_cases hfew : n ≤ 150
  · rw [decide_eq_true hfew] at HF
    have hno' : mr r c n = false ∨ r ≠ c := hno.resolve_left (by omega)
    have HIV := Lib.hid fun g W (hW : Fld W g) => matInvertNo g r c A n k W hW (by omega) hno'
    have HRG := Lib.hid fun W => refRight4 r c A n k W
    obtain ⟨b, hb⟩ : ∃ b, mr r c n = b := ⟨_, rfl⟩
    rw [hb] at HRG
    have hx : b = true → (r != c) = true ∧ (r == c) = false := fun e => by
      rw [hb, e] at hno'
      have := hno'.resolve_left (by decide)
      exact ⟨by simpa using this, by simpa using this⟩
    unfold mv at HAL HM HF HRG HIV ⊢
    clear hal h hb hn hno hno'
    go_enter Try.func3, Try.ntmps3
    go_wp2_with fail
    refine (HF.out _).mono ?_
    rintro e w2 ⟨rfl, hb2⟩
    have HM2 := Lib.hid (HM.out.below hb2 HM.out.lt)
    have HB2 := Lib.hid (HAL.out.via hb2)
    clear hb2
    go_wp2_with fail
    refine (fldNewA w2).mono ?_
    rintro e w3 ⟨rfl, hf3, hs3, hb3⟩
    have HF3 := Lib.hid hf3
    have hb23 := hb3 w2.heap.size w2 (Nat.le_refl _) (Below.refl _ _)
    have HM3 := Lib.hid (HM2.out.below hb23 HM2.out.lt)
    have HB3 := Lib.hid (HB2.out.via hb23)
    have hz2 := HB2.out.size
    have hlm := HM2.out.lt
    have m0 := HM3.out.cell 0
    have m1 := HM3.out.cell 1
    have m2 := HM3.out.cell 2
    simp only [List.getElem?_toArray, List.getElem?_cons_zero, List.getElem?_cons_succ] at m0 m1 m2
    clear hf3 hs3 hb3 hb23
    go_wp2_with fail
    refine (HIV.out _ _ HF3.out).mono ?_
    rintro e w4 ⟨rfl, hs4⟩
    have HM4 : Hid (Blk (w4.alloc (.cells #[.int .i64 0, .int .i64 0, .slice none 0 0] 24)) w.heap.size 24 #[.int .i64 r, .int .i64 c, .slice A n k]) := Lib.hid (Blk.alloc (w := w4) ((hs4.oth w.heap.size HM3.out.lt (by omega)).trans HM3.out) _)
    have HX4 := Lib.hid (Blk.new w4 24 #[.int .i64 0, .int .i64 0, .slice none 0 0])
    have hb4 := hs4.below HB3.out hz2 HB3.out.size
    have hlt4 : w.heap.size < w4.heap.size := Nat.lt_of_lt_of_le HM3.out.lt hs4.size
    have HB4 := Lib.hid (hb4.via ((Below.refl w4.heap.size w4).alloc (Nat.le_refl _) (.cells #[.int .i64 0, .int .i64 0, .slice none 0 0] 24)))
    clear hs4 hb4 m0 m1 m2
    have n0 := HM4.out.cell 0
    have n1 := HM4.out.cell 1
    have n2 := HM4.out.cell 2
    simp only [List.getElem?_toArray, List.getElem?_cons_zero, List.getElem?_cons_succ] at n0 n1 n2
    unfold mv
    go_upto_region 5 with fail
    generalize w4.alloc _ = w5 at *
    generalize hg4 : w4.heap.size = g4 at *
    clear hg4
    go_wp2_with fail
    refine (HRG.out _).mono ?_
    rintro e w6 ⟨rfl, hb6⟩
    have HM6 := Lib.hid (HM4.out.below hb6 HM4.out.lt)
    have HX6 := Lib.hid (HX4.out.below hb6 HX4.out.lt)
    have HB6 := Lib.hid (HB4.out.via hb6)
    have m0 := HM6.out.cell 0
    have m1 := HM6.out.cell 1
    have x0 := HX6.out.cell 0
    have x1 := HX6.out.cell 1
    have x2 := HX6.out.cell 2
    simp only [List.getElem?_toArray, List.getElem?_cons_zero, List.getElem?_cons_succ] at m0 m1 x0 x1 x2
    clear hb6 n0 n1 n2
    cases b
    · clear hx
      go_wp2_with fail
      refine (same_none _).mono ?_
      rintro e w7 ⟨rfl, hb7⟩
      go_wp2_with fail
      refine (HS.out _).mono ?_
      rintro e w8 ⟨rfl, hb8⟩
      go_wp2
      go_ret
      exact ⟨rfl, (HB6.out.via hb7).via hb8⟩
    · obtain ⟨hx1, hx2⟩ := hx rfl
      go_wp2_with fail
      refine (same_none _).mono ?_
      rintro e w7 ⟨rfl, hb7⟩
      go_wp2_with fail
      refine (HS.out _).mono ?_
      rintro e w8 ⟨rfl, hb8⟩
      go_wp2
      go_ret
      exact ⟨rfl, (HB6.out.via hb7).via hb8⟩
  · rw [decide_eq_false hfew] at HF
    unfold mv at HAL HM HF ⊢
    clear hal h
    go_enter Try.func3, Try.ntmps3
    go_wp2_with fail
    refine (HF.out _).mono ?_
    rintro e w2 ⟨rfl, hb2⟩
    go_wp2_with fail
    refine (HS.out _).mono ?_
    rintro e w3 ⟨rfl, hb3⟩
    go_wp2
    go_ret
    exact ⟨rfl, (HAL.out.via hb2).via hb3⟩
end Cib
