/- What the law NumTexts does. -/
import Derived.Test.YtpjmngmhpckobaaNumL1
set_option linter.unusedVariables false
set_option linter.unusedSimpArgs false
set_option maxRecDepth 40000
namespace Go.Proofs.Ytpjmngmhpckobaa
open Go.RowKit Cib
theorem lawTexts (A : Option Addr) (cap : Nat) (bs : List UInt8) (at_ most : Int) (s : ByteArray) (w : World) (h : Rd w w.heap.size A (bs.map bv)) (hcap : bs.length ≤ cap) (hcm : cap ≤ maxLen) (ha : -9223372036854775808 ≤ at_ ∧ at_ ≤ 9223372036854775807) (hmo : -9223372036854775808 ≤ most ∧ most ≤ 9223372036854775807) (hs : s.size ≤ maxLen) :
    Calls Try.prog 5 #[.slice A bs.length cap, .int .i64 at_, .string s, .int .i64 most] w fun e w' => e = .returned (.bool true) ∧ Below w.heap.size w w' := by
  have hcm' := hcm
  have hs' := hs
  unfold maxLen at hcm' hs'
  by_cases hlt : 2000 < bs.length
  · go_enter Try.func5, Try.ntmps5
    go_wp2_with fail
    refine (read _).mono ?_
    rintro e w' ⟨rfl, hb⟩
    go_wp2_with fail
    go_ret
    exact ⟨rfl, hb⟩
  · by_cases hlt2 : 2000 < s.size
    · go_enter Try.func5, Try.ntmps5
      go_wp2_with fail
      refine (read _).mono ?_
      rintro e w' ⟨rfl, hb⟩
      go_wp2_with fail
      go_ret
      exact ⟨rfl, hb⟩
    · have hx := numText A cap bs at_ most w _ h rfl hcap hcm ha hmo
      have hz := numBytes A cap bs at_ most w _ h rfl hcap hcm (Nat.le_refl _) (by omega) ha hmo
      have hy := fun (W : World) (hw : Below w.heap.size w W) => refText A cap bs at_ most W _ (h.below hw) rfl hcap hcm ha hmo
      unfold textV at hy
      generalize Num.part bs at_ most = v at *
      obtain ⟨x, p, e⟩ := v
      simp only at hx hy hz
      have HX := Lib.hid hx
      have HY := Lib.hid hy
      have HZ := Lib.hid hz
      clear hx hy hz
      go_enter Try.func5, Try.ntmps5
      go_wp2_with fail
      refine HX.out.mono ?_
      rintro e w' ⟨rfl, rfl⟩
      go_wp2_with fail
      refine HZ.out.mono ?_
      rintro e w1 ⟨A1, n1, c1, rfl, hn1, ho1, hb1⟩
      have HN1 := Lib.hid hn1
      clear hn1
      go_wp2_with fail
      refine (HY.out _ hb1).mono ?_
      rintro e w' ⟨rfl, rfl⟩
      go_wp2_with fail
      refine (numPutText A cap bs s _ _ (h.below hb1) rfl hb1.size (by omega)).mono ?_
      rintro e w2 ⟨A2, n2, c2, rfl, hn2, ho2, hb2⟩
      have HN2 := Lib.hid hn2
      have hb12 := hb1.via hb2
      clear hn2
      go_wp2_with fail
      refine (refPutText A cap bs s _ _ (h.below hb12) rfl hb12.size (by omega)).mono ?_
      rintro e w3 ⟨A3, n3, c3, rfl, hn3, ho3, hb3⟩
      have HN3 := Lib.hid hn3
      have hb13 := hb12.via hb3
      clear hn3
      go_wp2_with fail
      refine (same_yes A2 c2 A3 c3 _ _ _ _ ((Rd.of_own ho2).below hb3) HN2.out (Rd.of_own ho3) HN3.out).mono ?_
      rintro e w' ⟨rfl, rfl⟩
      obtain ⟨c4, w4, hconv, hr4, hb4, hlt4⟩ := run_bytes (P := Try.prog) w3 9 22 5 s Try.underlying9 Try.underlying22 Try.underlying5
      have hb14 := hb13.via hb4
      go_wp2_with fail
      refine (numPutBytes A cap bs _ c4 s.data.toList _ (w3.heap.size + 1) ((h.below hb14).more (by have := hb13.size; omega)) rfl hr4 Array.length_toList hlt4 (by show _ + 2 * s.size + 20 ≤ _; omega)).mono ?_
      rintro e w5 ⟨A5, n5, c5, rfl, hn5, ho5, hb5⟩
      have HN5 := Lib.hid hn5
      have hb15 := hb14.via hb5
      clear hn5 hconv
      go_wp2_with fail
      refine (refPutText A cap bs s _ _ (h.below hb15) rfl hb15.size (by omega)).mono ?_
      rintro e w6 ⟨A6, n6, c6, rfl, hn6, ho6, hb6⟩
      have HN6 := Lib.hid hn6
      have hb16 := hb15.via hb6
      clear hn6
      go_wp2_with fail
      refine (same_yes A5 c5 A6 c6 _ _ _ _ ((Rd.of_own ho5).below hb6) HN5.out (Rd.of_own ho6) HN6.out).mono ?_
      rintro e w' ⟨rfl, rfl⟩
      have hst := run_str (P := Try.prog) 22 9 5 Try.underlying22 Try.underlying5 Try.underlying9 (((Rd.of_own ho1).below (((hb2.via hb3).via hb4).via hb5)).below (hb6.mono ((((hb2.via hb3).via hb4).via hb5).size))) HN1.out c1
      go_wp2_with fail
      refine (read _).mono ?_
      rintro e w' ⟨rfl, hb⟩
      go_wp2_with fail
      go_ret
      exact ⟨rfl, hb16.via hb⟩
end Go.Proofs.Ytpjmngmhpckobaa
