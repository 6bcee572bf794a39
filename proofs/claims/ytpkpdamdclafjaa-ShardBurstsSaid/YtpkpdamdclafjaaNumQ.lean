/- What package num's readings of texts compute. -/
import Derived.Test.YtpkpdamdclafjaaNumT
set_option linter.unusedVariables false
set_option linter.unusedSimpArgs false
set_option maxRecDepth 20000
namespace Num
theorem var_ok (bs : List UInt8) (at_ : Int) (h : (var bs at_).2.2 = 0) : (var bs at_).1 < 18446744073709551616 ∧ ∃ P : Nat, (var bs at_).2.1 = (P : Int) ∧ P ≤ bs.length := by
  unfold var at h ⊢
  by_cases hc : at_ < 0 ∨ (bs.length : Int) < at_
  · rw [if_pos hc] at h
    simp at h
  · rw [if_neg hc] at h ⊢
    obtain ⟨a, rfl⟩ := Int.eq_ofNat_of_zero_le (by omega : 0 ≤ at_)
    rw [Int.toNat_natCast] at h ⊢
    simp only at h ⊢
    obtain ⟨q, e1, e2, e3, e4, e5, e6, e7⟩ := rv_ok (bs.drop a) 0 0 (by omega) h
    rw [if_pos h]
    rw [List.length_drop] at e3
    refine ⟨?_, a + (rv (bs.drop a) 0 0).2.1, by simp, by omega⟩
    rw [e1]
    unfold cap at e6
    simpa using e6
def partOf (bs : List UInt8) (most : Int) (v : Nat × Int × Nat) : List UInt8 × Int × Nat :=
  if v.2.2 ≠ 0 then ([], 0, v.2.2)
  else if (max most 0).toNat < v.1 then ([], 0, 6)
  else if (bs.length - v.2.1.toNat) < v.1 then ([], 0, 5)
  else ((bs.drop v.2.1.toNat).take v.1, v.2.1 + (v.1 : Int), 0)
end Num
namespace Go.Proofs.Ytpkpdamdclafjaa
open Go.RowKit Cib
/-- What part answers: a slice that reads as the text's bytes, the place behind it, the error; nothing is made. -/
def PartOut (bs : List UInt8) (at_ most : Int) (w : World) (B : Nat) (e : Ending) (w' : World) : Prop :=
  (∃ A n c, e = .returned (.tuple #[.slice A n c, .int .i64 (Num.part bs at_ most).2.1, .int .i64 ((Num.part bs at_ most).2.2 : Int)]) ∧ (Num.part bs at_ most).1.length = n ∧ Rd w B A ((Num.part bs at_ most).1.map bv)) ∧ w = w'
theorem partOut_mk {bs : List UInt8} {at_ most : Int} {w : World} {B : Nat} {xs : List UInt8} {p : Int} {e : Nat} {A : Option Addr} {n c : Nat} {E : Ending}
    (hp : Num.part bs at_ most = (xs, p, e)) (hr : Rd w B A (xs.map bv)) (hn : xs.length = n) (hE : E = .returned (.tuple #[.slice A n c, .int .i64 p, .int .i64 (e : Int)])) : PartOut bs at_ most w B E w := by
  unfold PartOut
  rw [hp]
  exact ⟨⟨A, n, c, hE, hn, hr⟩, rfl⟩

theorem part_len (bs : List UInt8) (at_ most : Int) : (Num.part bs at_ most).1.length ≤ bs.length := by
  show (Num.partOf bs most (Num.var bs at_)).1.length ≤ _
  unfold Num.partOf
  split
  · simp
  · split
    · simp
    · split
      · simp
      · simp; omega

end Go.Proofs.Ytpkpdamdclafjaa
