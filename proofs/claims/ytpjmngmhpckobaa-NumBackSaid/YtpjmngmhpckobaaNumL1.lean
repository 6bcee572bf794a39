/- What the laws NumVars, NumFixed and NumTexts do. -/
import Derived.Test.YtpjmngmhpckobaaNumLaw
set_option linter.unusedVariables false
set_option linter.unusedSimpArgs false
set_option maxRecDepth 20000
namespace Go.Proofs.Ytpjmngmhpckobaa
open Go.RowKit Cib
theorem wf_u64 {n : Int} (h : (Lit.int .u64 n).wf = true) : ∃ k : Nat, n = (k : Int) ∧ k < 18446744073709551616 := by
  have hb := bounds_u64 h
  exact ⟨n.toNat, by omega, by omega⟩
theorem same_yes (A : Option Addr) (cap : Nat) (A' : Option Addr) (cap' : Nat) (xs : List UInt8) (w : World) (B B' : Nat) (h : Rd w B A (xs.map bv)) {n : Nat} (hn : xs.length = n) (h' : Rd w B' A' (xs.map bv)) {n' : Nat} (hn' : xs.length = n') :
    Calls Try.prog 11 #[.slice A n cap, .slice A' n' cap'] w fun e w' => e = .returned (.bool true) ∧ w = w' := by
  refine (refSame A cap xs A' cap' xs w B B' h hn h' hn').mono fun e w' ⟨he, hw⟩ => ⟨?_, hw⟩
  rw [he]
  simp

theorem lawVars (A : Option Addr) (cap : Nat) (bs : List UInt8) (at_ : Int) (n : Nat) (w : World) (h : Rd w w.heap.size A (bs.map bv)) (hcap : bs.length ≤ cap) (hcm : cap ≤ maxLen) (ha : -9223372036854775808 ≤ at_ ∧ at_ ≤ 9223372036854775807) (hu : n < 18446744073709551616) :
    Calls Try.prog 3 #[.slice A bs.length cap, .int .i64 at_, .int .u64 (n : Int)] w fun e w' => e = .returned (.bool true) ∧ Below w.heap.size w w' := by
  have hcm' := hcm
  unfold maxLen at hcm'
  have HU := Lib.hid hu
  clear hu
  by_cases hlt : 2000 < bs.length
  · go_enter Try.func3, Try.ntmps3
    go_wp2_with fail
    refine (read _).mono ?_
    rintro e w' ⟨rfl, hb⟩
    go_wp2_with fail
    go_ret
    exact ⟨rfl, hb⟩
  · have hx := numVar A cap bs at_ w _ h rfl hcap hcm ha
    have hy := refVar A cap bs at_ w _ h rfl (Nat.le_trans hcap hcm) ha
    unfold varV at hx hy
    generalize Num.var bs at_ = v at *
    obtain ⟨x, p, e⟩ := v
    simp only at hx hy
    have HX := Lib.hid hx
    have HY := Lib.hid hy
    clear hx hy
    go_enter Try.func3, Try.ntmps3
    go_wp2_with fail
    refine HX.out.mono ?_
    rintro e w' ⟨rfl, rfl⟩
    go_wp2_with fail
    refine HY.out.mono ?_
    rintro e w' ⟨rfl, rfl⟩
    go_wp2_with fail
    refine (numPutVar A cap bs n _ _ h rfl (Nat.le_refl _) HU.out (by omega)).mono ?_
    rintro e w1 ⟨A1, n1, c1, rfl, hn1, ho1, hb1⟩
    have HN1 := Lib.hid hn1
    clear hn1
    go_wp2_with fail
    refine (refPutVar A cap bs n _ _ (h.below hb1) rfl hb1.size HU.out (by omega)).mono ?_
    rintro e w2 ⟨A2, n2, c2, rfl, hn2, ho2, hb2⟩
    have HN2 := Lib.hid hn2
    clear hn2
    go_wp2_with fail
    refine (same_yes A1 c1 A2 c2 _ _ _ _ ((Rd.of_own ho1).below hb2) HN1.out (Rd.of_own ho2) HN2.out).mono ?_
    rintro e w3 ⟨rfl, rfl⟩
    go_wp2_with fail
    refine (read _).mono ?_
    rintro e w' ⟨rfl, hb⟩
    go_wp2_with fail
    go_ret
    exact ⟨rfl, (hb1.via hb2).via hb⟩

theorem lawFixed (A : Option Addr) (cap : Nat) (bs : List UInt8) (at_ width : Int) (n : Nat) (w : World) (h : Rd w w.heap.size A (bs.map bv)) (hcap : bs.length ≤ cap) (hcm : cap ≤ maxLen) (ha : -9223372036854775808 ≤ at_ ∧ at_ ≤ 9223372036854775807) (hwi : -9223372036854775808 ≤ width ∧ width ≤ 9223372036854775807) (hu : n < 18446744073709551616) :
    Calls Try.prog 4 #[.slice A bs.length cap, .int .i64 at_, .int .i64 width, .int .u64 (n : Int)] w fun e w' => e = .returned (.bool true) ∧ Below w.heap.size w w' := by
  have hcm' := hcm
  unfold maxLen at hcm'
  have HU := Lib.hid hu
  clear hu
  by_cases hlt : 2000 < bs.length
  · go_enter Try.func4, Try.ntmps4
    go_wp2_with fail
    refine (read _).mono ?_
    rintro e w' ⟨rfl, hb⟩
    go_wp2_with fail
    go_ret
    exact ⟨rfl, hb⟩
  · have hx := fun (W : World) (hw : Below w.heap.size w W) => numGet A cap bs at_ width W _ (h.below hw) rfl hcap hcm ha hwi
    have hy := fun (W : World) (hw : Below w.heap.size w W) => refGet A cap bs at_ width W _ (h.below hw) rfl (Nat.le_trans hcap hcm) ha hwi
    unfold getV at hx hy
    generalize getP bs at_ width = v at *
    obtain ⟨x, e⟩ := v
    simp only at hx hy
    have HX := Lib.hid hx
    have HY := Lib.hid hy
    clear hx hy
    go_enter Try.func4, Try.ntmps4
    go_wp2_with fail
    refine (numPut A cap bs width n _ _ h rfl (Nat.le_refl _) hwi HU.out (by omega)).mono ?_
    rintro e w1 ⟨A1, n1, c1, rfl, hn1, ho1, hb1⟩
    have HN1 := Lib.hid hn1
    clear hn1
    go_wp2_with fail
    refine (HX.out _ hb1).mono ?_
    rintro e w' ⟨rfl, rfl⟩
    go_wp2_with fail
    refine (HY.out _ hb1).mono ?_
    rintro e w' ⟨rfl, rfl⟩
    go_wp2_with fail
    refine (refPut A cap bs width n _ _ (h.below hb1) rfl hb1.size hwi HU.out (by omega)).mono ?_
    rintro e w2 ⟨A2, n2, c2, rfl, hn2, ho2, hb2⟩
    have HN2 := Lib.hid hn2
    clear hn2
    go_wp2_with fail
    refine (same_yes A1 c1 A2 c2 _ _ _ _ ((Rd.of_own ho1).below hb2) HN1.out (Rd.of_own ho2) HN2.out).mono ?_
    rintro e w3 ⟨rfl, rfl⟩
    go_wp2_with fail
    refine (read _).mono ?_
    rintro e w' ⟨rfl, hb⟩
    go_wp2_with fail
    go_ret
    exact ⟨rfl, (hb1.via hb2).via hb⟩
end Go.Proofs.Ytpjmngmhpckobaa
