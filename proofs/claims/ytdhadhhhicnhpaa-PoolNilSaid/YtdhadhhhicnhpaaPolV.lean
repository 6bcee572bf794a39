/- PoolOnce: what must come at any rate. -/
import Derived.Test.YtdhadhhhicnhpaaPolL
set_option linter.unusedVariables false
set_option linter.unusedSimpArgs false
set_option maxRecDepth 20000
namespace Cib
open Go Go.RowKit Go.Proofs
set_option maxHeartbeats 2000000 in
theorem lawGives (w : World) : Calls Try.prog 7 #[] w fun e w' => e = .returned (.bool true) ∧ Below w.heap.size w w' := by
  have HN := Lib.hid (plNew 10 3 (by decide) (by decide) (by decide) w)
  have T1 : Hid (Bmp.takeF (List.replicate 3 false) 2 = ([0, 1], 0, [true, true, false])) := Lib.hid (by decide)
  have T2 : Hid (Bmp.turnF true 10 [true, true, false] (List.replicate 3 false) [10] = (1, [true, true, false], [true, false, false])) := Lib.hid (by decide)
  have T3 : Hid (Bmp.takeF [true, true, false] 2 = ([], 140, [true, true, false])) := Lib.hid (by decide)
  have T4 : Hid (Bmp.clrN [true, true, false] (Bmp.trues [true, false, false] 0) = [false, true, false]) := Lib.hid (by decide)
  have T5 : Hid (Bmp.clrN [true, false, false] (Bmp.trues [true, false, false] 0) = [false, false, false]) := Lib.hid (by decide)
  have T6 : Hid (Bmp.takeF [false, true, false] 2 = ([0, 2], 0, [true, true, true])) := Lib.hid (by decide)
  go_enter Try.func7, Try.ntmps7
  go_wp2_with fail
  refine HN.out.mono ?_
  rintro e w1 ⟨g, x, rfl, hp1, hb1⟩
  clear HN
  have hz1 := hb1.size
  go_wp2_with fail
  refine (plTake hp1 hz1 2 (by decide)).mono ?_
  unfold TakeR
  rw [T1.out]
  rintro e w2 ⟨Aa, na, ca, rfl, hna, hoa, hp2, hb2, _⟩
  replace hb2 := hb1.trans hb2
  have hz2 := hb2.size
  clear hp1 hb1 T1
  go_wp2_with fail
  have hal : Below w2.heap.size w2 (w2.alloc (.cells #[.int .i64 10] 3)) := (Below.refl _ _).alloc (Nat.le_refl _) _
  have hr3 : Rd (w2.alloc (.cells #[.int .i64 10] 3)) (w2.heap.size + 1) (some ⟨w2.heap.size, 0, none⟩) ([10].map zv) := Rd.new w2 _ _ _ rfl
  refine (plLater (L := [10]) (hp2.alloc _) (by simp; omega) (w2.heap.size + 1) (some ⟨w2.heap.size, 0, none⟩) 1 1 rfl (by decide) (by decide) (fun w' _ hs => hr3.same hs (t := 3) (by decide) (fun ad e => by injection e with e; subst e; exact (Blk.new w2 _ _).ty))).mono ?_
  rintro e w3 ⟨he, hp3, hb3, hs3⟩
  rw [T2.out] at he hp3
  subst he
  replace hoa := own_same (own_belowS hoa hal) hs3 (by decide)
  replace hb3 := (hb2.via hal).trans hb3
  have hz3 := hb3.size
  clear hp2 hb2 hal hr3 hs3 T2
  go_wp2_with fail
  refine (plTake hp3 hz3 2 (by decide)).mono ?_
  unfold TakeR
  rw [T3.out]
  rintro e w4 ⟨A4, n4, c4, rfl, hn4, ho4, hp4, hb4, hs4⟩
  replace hoa := own_same hoa hs4 (by decide)
  replace hb4 := hb3.trans hb4
  have hz4 := hb4.size
  clear hp3 hb3 T3 hs4 ho4 hn4
  go_wp2_with fail
  refine (plSettle hp4 hz4).mono ?_
  rw [T4.out, T5.out]
  rintro e w5 ⟨rfl, hp5, hb5, hs5⟩
  replace hoa := own_same hoa hs5 (by decide)
  replace hb5 := hb4.trans hb5
  have hz5 := hb5.size
  clear hp4 hb4 T4 T5 hs5
  go_wp2_with fail
  refine (plTake hp5 hz5 2 (by decide)).mono ?_
  unfold TakeR
  rw [T6.out]
  rintro e w6 ⟨Ab, nb, cb, rfl, hnb, hob, hp6, hb6, hs6⟩
  replace hoa := own_same hoa hs6 (by decide)
  replace hb6 := hb5.trans hb6
  have hz6 := hb6.size
  clear hp5 hb5 T6 hs6
  have hka : na ≤ 65536 := by rw [← hna]; decide
  have hkb : nb ≤ 65536 := by rw [← hnb]; decide
  have HNA : Hid ([10, 11].length = na) := Lib.hid hna
  have HNB : Hid ([10, 12].length = nb) := Lib.hid hnb
  clear hna hnb
  have HOA : Hid (w6.ownsRow w1.heap.size 3 1 (.slice Aa na ca) na ([10, 11].map iv)) := Lib.hid hoa
  have HOB : Hid (w6.ownsRow w5.heap.size 3 1 (.slice Ab nb cb) nb ([10, 12].map iv)) := Lib.hid hob
  clear hoa hob
  go_wp2_with fail
  have hl6 : Below w6.heap.size w6 (w6.alloc (.cells #[.int .i64 10, .int .i64 11] 3)) := (Below.refl _ _).alloc (Nat.le_refl _) _
  have hq6 : Rd (w6.alloc (.cells #[.int .i64 10, .int .i64 11] 3)) (w6.heap.size + 1) (some ⟨w6.heap.size, 0, none⟩) ([10, 11].map iv) := Rd.new w6 _ _ _ rfl
  refine (refInts _ _ _ _ _ _ (w6.heap.size + 1) [10, 11] [10, 11] _ ((Rd.of_own (own_belowS HOA.out hl6)).more (by simp)) hq6 HNA.out rfl (by omega) (by simp)).mono ?_
  rintro e w7 ⟨rfl, hb7⟩
  have hb67 := hl6.trans (hb7.mono (by simp))
  have HP7 := Lib.hid (hp6.below hb67)
  have HOB7 := Lib.hid (own_belowS HOB.out hb67)
  have HB7 := Lib.hid (hb6.via hb67)
  clear hl6 hq6 hb7 hb67 hp6 hb6 HOA HNA HOB
  go_wp2_with fail
  have hl7 : Below w7.heap.size w7 (w7.alloc (.cells #[.int .i64 10, .int .i64 12] 3)) := (Below.refl _ _).alloc (Nat.le_refl _) _
  have hq7 : Rd (w7.alloc (.cells #[.int .i64 10, .int .i64 12] 3)) (w7.heap.size + 1) (some ⟨w7.heap.size, 0, none⟩) ([10, 12].map iv) := Rd.new w7 _ _ _ rfl
  refine (refInts _ _ _ _ _ _ (w7.heap.size + 1) [10, 12] [10, 12] _ ((Rd.of_own (own_belowS HOB7.out hl7)).more (by simp)) hq7 HNB.out rfl (by omega) (by simp)).mono ?_
  rintro e w8 ⟨rfl, hb8⟩
  have hb78 := hl7.trans (hb8.mono (by simp))
  have HP8 := Lib.hid (HP7.out.below hb78)
  have HB8 := Lib.hid (HB7.out.via hb78)
  have HFR := Lib.hid (plFree HP8.out)
  rw [show (([true, true, true].length : Nat) : Int) - (([true, true, true].count true : Nat) : Int) = 0 by decide] at HFR
  clear hl7 hq7 hb8 hb78 HOB7 HNB
  go_wp2_with fail
  refine HFR.out.mono ?_
  rintro e w9 ⟨rfl, q, rfl⟩
  go_wp2_with fail
  refine (plNew0 0 0 (by decide) (by decide) (by decide) _).mono ?_
  rintro e w10 ⟨rfl, rfl⟩
  go_wp2
  go_ret
  exact ⟨rfl, below_drewN HB8.out q⟩
end Cib
