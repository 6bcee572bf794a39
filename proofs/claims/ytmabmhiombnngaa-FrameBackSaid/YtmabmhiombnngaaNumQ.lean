/- What package num's readings of texts compute. -/
import Derived.Test.YtmabmhiombnngaaNumT
set_option linter.unusedVariables false
set_option linter.unusedSimpArgs false
set_option maxRecDepth 20000
namespace Num
theorem var_ok (bs : List UInt8) (at_ : Int) (h : (var bs at_).2.2 = 0) : (var bs at_).1 < 18446744073709551616 ∧ ∃ P : Nat, (var bs at_).2.1 = (P : Int) ∧ P ≤ bs.length := by
  unfold var at h ⊢
  by_cases hc : at_ < 0 ∨ (bs.length : Int) < at_
  · rw [if_pos hc] at h
    simp at h
  · rw [if_neg hc] at h ⊢
    obtain ⟨a, rfl⟩ := Int.eq_ofNat_of_zero_le (by omega : 0 ≤ at_)
    rw [Int.toNat_natCast] at h ⊢
    simp only at h ⊢
    obtain ⟨q, e1, e2, e3, e4, e5, e6, e7⟩ := rv_ok (bs.drop a) 0 0 (by omega) h
    rw [if_pos h]
    rw [List.length_drop] at e3
    refine ⟨?_, a + (rv (bs.drop a) 0 0).2.1, by simp, by omega⟩
    rw [e1]
    unfold cap at e6
    simpa using e6
def partOf (bs : List UInt8) (most : Int) (v : Nat × Int × Nat) : List UInt8 × Int × Nat :=
  if v.2.2 ≠ 0 then ([], 0, v.2.2)
  else if (max most 0).toNat < v.1 then ([], 0, 6)
  else if (bs.length - v.2.1.toNat) < v.1 then ([], 0, 5)
  else ((bs.drop v.2.1.toNat).take v.1, v.2.1 + (v.1 : Int), 0)
end Num
namespace Go.Proofs.Ytmabmhiombnngaa
open Go.RowKit Cib
/-- What part answers: a slice that reads as the text's bytes, the place behind it, the error; nothing is made. -/
def PartOut (bs : List UInt8) (at_ most : Int) (w : World) (B : Nat) (e : Ending) (w' : World) : Prop :=
  (∃ A n c, e = .returned (.tuple #[.slice A n c, .int .i64 (Num.part bs at_ most).2.1, .int .i64 ((Num.part bs at_ most).2.2 : Int)]) ∧ (Num.part bs at_ most).1.length = n ∧ Rd w B A ((Num.part bs at_ most).1.map bv)) ∧ w = w'
theorem partOut_mk {bs : List UInt8} {at_ most : Int} {w : World} {B : Nat} {xs : List UInt8} {p : Int} {e : Nat} {A : Option Addr} {n c : Nat} {E : Ending}
    (hp : Num.part bs at_ most = (xs, p, e)) (hr : Rd w B A (xs.map bv)) (hn : xs.length = n) (hE : E = .returned (.tuple #[.slice A n c, .int .i64 p, .int .i64 (e : Int)])) : PartOut bs at_ most w B E w := by
  unfold PartOut
  rw [hp]
  exact ⟨⟨A, n, c, hE, hn, hr⟩, rfl⟩

theorem numPartM (A : Option Addr) (cap : Nat) (bs : List UInt8) (at_ : Int) (M : Nat) (w : World) (B : Nat) (h : Rd w B A (bs.map bv)) (hcap : bs.length ≤ cap) (hcm : cap ≤ maxLen) (ha : -9223372036854775808 ≤ at_ ∧ at_ ≤ 9223372036854775807) (hM : (M : Int) ≤ 9223372036854775807) :
    Calls Try.prog 58 #[.slice A bs.length cap, .int .i64 at_, .int .i64 (M : Int)] w (PartOut bs at_ (M : Int) w B) := by
  have hcm' := hcm
  unfold maxLen at hcm'
  have hvar := numVar A cap bs at_ w B h rfl hcap hcm ha
  unfold varV at hvar
  have hok := Num.var_ok bs at_
  have hpart : Num.part bs at_ (M : Int) = Num.partOf bs (M : Int) (Num.var bs at_) := rfl
  generalize Num.var bs at_ = v at *
  obtain ⟨n, p, e⟩ := v
  simp only at hvar hok
  have HV := Lib.hid hvar
  clear hvar
  by_cases he : e = 0
  · subst he
    obtain ⟨hn64, P, rfl, hPl⟩ := hok rfl
    clear hok
    have HP : Hid (Num.part bs at_ (M : Int) = if (max (M : Int) 0).toNat < n then ([], 0, 6) else if bs.length - P < n then ([], 0, 5) else ((bs.drop P).take n, (P : Int) + (n : Int), 0)) := hpart
    clear hpart
    have hmx : (max (M : Int) 0).toNat = M := by omega
    rw [hmx] at HP
    clear hmx
    by_cases h1 : M < n
    · rw [if_pos h1] at HP
      go_enter Try.func58, Try.ntmps58
      go_wp2_with (go_at_call 41; refine HV.out.mono ?_; rintro e w' ⟨rfl, rfl⟩)
      go_ret3
      exact partOut_mk HP.out (Rd.nil _ _ _) rfl rfl
    · rw [if_neg h1] at HP
      by_cases h2 : bs.length - P < n
      · rw [if_pos h2] at HP
        have h2' : (bs.length : Int) - (P : Int) < (n : Int) := by omega
        go_enter Try.func58, Try.ntmps58
        go_wp2_with (go_at_call 41; refine HV.out.mono ?_; rintro e w' ⟨rfl, rfl⟩)
        go_ret3
        exact partOut_mk HP.out (Rd.nil _ _ _) rfl rfl
      · rw [if_neg h2] at HP
        have h2' : ¬ (bs.length : Int) - (P : Int) < (n : Int) := by omega
        have hsl := fun W : World => run_cut_three (P := Try.prog) 26 5 Try.underlying26 sizeByte A bs.length cap P (P + n) (P + n) .i64 .i64 .i64 (by omega) (Nat.le_refl _) (by omega) W
        rw [Int.natCast_add, Nat.add_sub_cancel_left] at hsl
        have hr : Rd w B (cut A (P + n) P) (((bs.drop P).take n).map bv) := by
          have h3 := (h.take (P + n)).cut (c := P + n) (k := P) (by rw [List.length_take, List.length_map]; omega) (by rw [List.length_take]; omega)
          rw [List.map_take, List.map_drop]
          rw [List.drop_take, Nat.add_sub_cancel_left] at h3
          exact h3
        have hln : ((bs.drop P).take n).length = n := by simp; omega
        have HLN := Lib.hid hln
        clear hln
        generalize cut A (P + n) P = A' at *
        go_enter Try.func58, Try.ntmps58
        go_wp2_with (go_at_call 41; refine HV.out.mono ?_; rintro e w' ⟨rfl, rfl⟩)
        go_ret3
        exact partOut_mk HP.out hr HLN.out rfl
  · have hne : ((e : Int) != 0) = true := by rw [bne_iff_ne]; omega
    have HP : Hid (Num.part bs at_ (M : Int) = ([], 0, e)) := hpart.trans (if_pos he)
    clear hpart hok he
    go_enter Try.func58, Try.ntmps58
    go_wp2_with (go_at_call 41; refine HV.out.mono ?_; rintro e w' ⟨rfl, rfl⟩)
    go_ret3
    exact partOut_mk HP.out (Rd.nil _ _ _) rfl rfl

theorem numPart0 (A : Option Addr) (cap : Nat) (bs : List UInt8) (at_ : Int) (most : Int) (w : World) (B : Nat) (h : Rd w B A (bs.map bv)) (hcap : bs.length ≤ cap) (hcm : cap ≤ maxLen) (ha : -9223372036854775808 ≤ at_ ∧ at_ ≤ 9223372036854775807) (hm : most < 0) :
    Calls Try.prog 58 #[.slice A bs.length cap, .int .i64 at_, .int .i64 most] w (PartOut bs at_ most w B) := by
  have hcm' := hcm
  unfold maxLen at hcm'
  have hvar := numVar A cap bs at_ w B h rfl hcap hcm ha
  unfold varV at hvar
  have hok := Num.var_ok bs at_
  have hpart : Num.part bs at_ most = Num.partOf bs most (Num.var bs at_) := rfl
  generalize Num.var bs at_ = v at *
  obtain ⟨n, p, e⟩ := v
  simp only at hvar hok
  have HV := Lib.hid hvar
  clear hvar
  by_cases he : e = 0
  · subst he
    obtain ⟨hn64, P, rfl, hPl⟩ := hok rfl
    clear hok
    have HP : Hid (Num.part bs at_ most = if (max most 0).toNat < n then ([], 0, 6) else if bs.length - P < n then ([], 0, 5) else ((bs.drop P).take n, (P : Int) + (n : Int), 0)) := hpart
    clear hpart
    have hmx : (max most 0).toNat = 0 := by omega
    rw [hmx] at HP
    clear hmx
    by_cases h1 : 0 < n
    · rw [if_pos h1] at HP
      go_enter Try.func58, Try.ntmps58
      go_wp2_with (go_at_call 41; refine HV.out.mono ?_; rintro e w' ⟨rfl, rfl⟩)
      go_ret3
      exact partOut_mk HP.out (Rd.nil _ _ _) rfl rfl
    · rw [if_neg h1] at HP
      by_cases h2 : bs.length - P < n
      · rw [if_pos h2] at HP
        have h2' : (bs.length : Int) - (P : Int) < (n : Int) := by omega
        go_enter Try.func58, Try.ntmps58
        go_wp2_with (go_at_call 41; refine HV.out.mono ?_; rintro e w' ⟨rfl, rfl⟩)
        go_ret3
        exact partOut_mk HP.out (Rd.nil _ _ _) rfl rfl
      · rw [if_neg h2] at HP
        have h2' : ¬ (bs.length : Int) - (P : Int) < (n : Int) := by omega
        have hsl := fun W : World => run_cut_three (P := Try.prog) 26 5 Try.underlying26 sizeByte A bs.length cap P (P + n) (P + n) .i64 .i64 .i64 (by omega) (Nat.le_refl _) (by omega) W
        rw [Int.natCast_add, Nat.add_sub_cancel_left] at hsl
        have hr : Rd w B (cut A (P + n) P) (((bs.drop P).take n).map bv) := by
          have h3 := (h.take (P + n)).cut (c := P + n) (k := P) (by rw [List.length_take, List.length_map]; omega) (by rw [List.length_take]; omega)
          rw [List.map_take, List.map_drop]
          rw [List.drop_take, Nat.add_sub_cancel_left] at h3
          exact h3
        have hln : ((bs.drop P).take n).length = n := by simp; omega
        have HLN := Lib.hid hln
        clear hln
        generalize cut A (P + n) P = A' at *
        go_enter Try.func58, Try.ntmps58
        go_wp2_with (go_at_call 41; refine HV.out.mono ?_; rintro e w' ⟨rfl, rfl⟩)
        go_ret3
        exact partOut_mk HP.out hr HLN.out rfl
  · have hne : ((e : Int) != 0) = true := by rw [bne_iff_ne]; omega
    have HP : Hid (Num.part bs at_ most = ([], 0, e)) := hpart.trans (if_pos he)
    clear hpart hok he
    go_enter Try.func58, Try.ntmps58
    go_wp2_with (go_at_call 41; refine HV.out.mono ?_; rintro e w' ⟨rfl, rfl⟩)
    go_ret3
    exact partOut_mk HP.out (Rd.nil _ _ _) rfl rfl

theorem numPart (A : Option Addr) (cap : Nat) (bs : List UInt8) (at_ most : Int) (w : World) (B : Nat) (h : Rd w B A (bs.map bv)) {len : Nat} (hn : bs.length = len) (hcap : len ≤ cap) (hcm : cap ≤ maxLen) (ha : -9223372036854775808 ≤ at_ ∧ at_ ≤ 9223372036854775807) (hm : -9223372036854775808 ≤ most ∧ most ≤ 9223372036854775807) :
    Calls Try.prog 58 #[.slice A len cap, .int .i64 at_, .int .i64 most] w (PartOut bs at_ most w B) := by
  subst hn
  rcases Int.lt_or_le most 0 with h0 | h0
  · exact numPart0 A cap bs at_ most w B h hcap hcm ha h0
  · obtain ⟨M, rfl⟩ := Int.eq_ofNat_of_zero_le h0
    exact numPartM A cap bs at_ M w B h hcap hcm ha hm.2

theorem part_len (bs : List UInt8) (at_ most : Int) : (Num.part bs at_ most).1.length ≤ bs.length := by
  show (Num.partOf bs most (Num.var bs at_)).1.length ≤ _
  unfold Num.partOf
  split
  · simp
  · split
    · simp
    · split
      · simp
      · simp; omega

theorem numText (A : Option Addr) (cap : Nat) (bs : List UInt8) (at_ most : Int) (w : World) (B : Nat) (h : Rd w B A (bs.map bv)) {len : Nat} (hn : bs.length = len) (hcap : len ≤ cap) (hcm : cap ≤ maxLen) (ha : -9223372036854775808 ≤ at_ ∧ at_ ≤ 9223372036854775807) (hm : -9223372036854775808 ≤ most ∧ most ≤ 9223372036854775807) :
    Calls Try.prog 51 #[.slice A len cap, .int .i64 at_, .int .i64 most] w fun e w' => e = .returned (.tuple #[.string ⟨(Num.part bs at_ most).1.toArray⟩, .int .i64 (Num.part bs at_ most).2.1, .int .i64 ((Num.part bs at_ most).2.2 : Int)]) ∧ w = w' := by
  have hp := numPart A cap bs at_ most w B h hn hcap hcm ha hm
  unfold PartOut at hp
  generalize Num.part bs at_ most = v at *
  obtain ⟨xs, p, e⟩ := v
  simp only at hp
  have HP := Lib.hid hp
  clear hp
  go_enter Try.func51, Try.ntmps51
  go_wp2_with fail
  refine HP.out.mono ?_
  rintro _ _ ⟨⟨A', n, c, rfl, hxn, hr⟩, rfl⟩
  have hs := run_str (P := Try.prog) 26 9 5 Try.underlying26 Try.underlying5 Try.underlying9 hr hxn c
  have HX := Lib.hid hxn
  clear hxn
  go_wp2_with fail
  go_ret3
  exact ⟨rfl, rfl⟩

end Go.Proofs.Ytmabmhiombnngaa
