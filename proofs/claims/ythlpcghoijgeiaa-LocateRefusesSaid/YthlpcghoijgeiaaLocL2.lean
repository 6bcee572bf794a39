/- The law LocateRefuses. -/
import Derived.Test.YthlpcghoijgeiaaLocG
set_option linter.unusedVariables false
set_option linter.unusedSimpArgs false
set_option maxRecDepth 40000
namespace Cib
open Go Go.RowKit Go.Proofs
set_option maxHeartbeats 4000000 in
theorem lawRefuses (A1 : Option Addr) (n1 c1 : Nat) (L : List RowB) (most : Int) (w : World) (h1 : Rd w w.heap.size A1 (L.map RowB.v)) (hR1 : RowsAt w w.heap.size L) (hl1 : L.length = n1) (hc1 : n1 ≤ c1) (hm1 : c1 ≤ maxLen) :
    Calls Try.prog 4 #[.slice A1 n1 c1, .int .i64 most] w fun e w' => e = .returned (.bool true) ∧ Below w.heap.size w w' := by
  have HF1 := Lib.hid (lawFew5 (.int .i64 0) L w.heap.size A1 n1 c1 w h1 hl1 (Nat.le_trans hc1 hm1) (fun r hr => Nat.le_trans (hR1 r hr).cap (hR1 r hr).max))
  have HFR := Lib.hid lawFinds
  obtain ⟨f1, hf1⟩ : ∃ f, fewB (lns L) = f := ⟨_, rfl⟩
  rw [hf1] at HF1
  clear hf1 h1 hR1 hl1 hc1 hm1
  go_enter Try.func4, Try.ntmps4
  cases f1
  · go_wp2_with (first | (go_at_call 13; refine HF1.out.mono ?_; rintro e w2 ⟨rfl, rfl⟩) | (go_at_call 7; refine (HFR.out _).mono ?_; rintro e w9 ⟨rfl, hb9⟩))
    go_ret
    exact ⟨rfl, hb9⟩
  · go_wp2_with fail
    refine HF1.out.mono ?_
    rintro e w0 ⟨rfl, rfl⟩
    clear HF1
    go_wp2_with fail
    refine (fldNewA _).mono ?_
    rintro e w1 ⟨rfl, hf, hz, hb0⟩
    have HB1 := Lib.hid (hb0 w0.heap.size w0 (Nat.le_refl _) (Below.refl _ _))
    have HF := Lib.hid hf
    clear hb0 hz hf
    go_wp2_with fail
    refine (locFindNil A1 n1 c1 most w1).mono ?_
    rintro e w2 ⟨rfl, hb2⟩
    have HB2 := Lib.hid (HB1.out.via hb2)
    have HF2 := Lib.hid (HF.out.on hb2)
    have HN2 := Lib.hid (cdNew w0.heap.size 2 3 (by decide) (by decide) (by decide) w2 HF2.out)
    clear hb2 HF HB1 HF2
    go_wp2_with fail
    refine HN2.out.mono ?_
    rintro e w3 ⟨g3, A3, c3, rfl, hg3, hC3, hs3⟩
    have HB3 := Lib.hid (hs3.below HB2.out (Nat.le_refl _) HB2.out.size)
    have HFN3 := Lib.hid (locFindNo hC3 A1 n1 c1 2 (by decide) (.inr (.inr (by decide))))
    have HF3 := Lib.hid hs3.full.fld
    clear hs3 hg3 hC3 HB2 HN2
    go_wp2_with fail
    refine HFN3.out.mono ?_
    rintro e w4 ⟨rfl, hb4⟩
    have HB4 := Lib.hid (HB3.out.via hb4)
    have HF4 := Lib.hid (HF3.out.on hb4)
    have HN4 := Lib.hid (cdNew w0.heap.size 10 7 (by decide) (by decide) (by decide) w4 HF4.out)
    clear hb4 HF3 HB3 HF4 HFN3
    go_wp2_with fail
    refine HN4.out.mono ?_
    rintro e w5 ⟨g5, A5, c5, rfl, hg5, hC5, hs5⟩
    have HB5 := Lib.hid (hs5.below HB4.out (Nat.le_refl _) HB4.out.size)
    have HFN5 := Lib.hid (locFindNo hC5 A1 n1 c1 1 (by decide) (.inl (by decide)))
    have HF5 := Lib.hid hs5.full.fld
    clear hs5 hg5 hC5 HB4 HN4
    go_wp2_with fail
    refine HFN5.out.mono ?_
    rintro e w6 ⟨rfl, hb6⟩
    have HB6 := Lib.hid (HB5.out.via hb6)
    have HF6 := Lib.hid (HF5.out.on hb6)
    have HN6 := Lib.hid (cdNew w0.heap.size 2 9 (by decide) (by decide) (by decide) w6 HF6.out)
    clear hb6 HF5 HB5 HF6 HFN5
    go_wp2_with fail
    refine HN6.out.mono ?_
    rintro e w7 ⟨g7, A7, c7, rfl, hg7, hC7, hs7⟩
    have HB7 := Lib.hid (hs7.below HB6.out (Nat.le_refl _) HB6.out.size)
    have HFN7 := Lib.hid (locFindNo hC7 A1 n1 c1 3 (by decide) (.inr (.inl (by decide))))
    clear hs7 hg7 hC7 HB6 HN6
    go_wp2_with fail
    refine HFN7.out.mono ?_
    rintro e w8 ⟨rfl, hb8⟩
    have HB8 := Lib.hid (HB7.out.via hb8)
    clear hb8 HB7 HFN7
    have HCL := Lib.hid (locClose (.pointer none) A1 n1 c1 most (-1) w8 ((locFindNil A1 n1 c1 most w8).mono fun e W ⟨he, hb⟩ => ⟨none, 0, 0, none, 0, 0, 1, he, hb, .inr ⟨by decide, rfl⟩⟩))
    go_wp2_with fail
    refine HCL.out.mono ?_
    rintro e w9 ⟨rfl, hb9⟩
    have HB9 := Lib.hid (HB8.out.via hb9)
    clear hb9 HCL HB8
    go_wp2_with fail
    refine (HFR.out w9).mono ?_
    rintro e wz ⟨rfl, hbz⟩
    have HBZ := Lib.hid (HB9.out.via hbz)
    clear hbz
    go_wp2
    go_ret
    exact ⟨rfl, HBZ.out⟩
end Cib
