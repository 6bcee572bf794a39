/- Order: what the sort of spans asks: how a row of spans lies, and the compare. -/
import Derived.Test.YtijinfmokbaahaaOrdC
import Derived.Test.YtijinfmokbaahaaOrdR
set_option linter.unusedVariables false
set_option linter.unusedSimpArgs false
set_option maxRecDepth 20000
namespace Cib
open Go Go.RowKit Go.Proofs
/-- A span. -/
abbrev Sn := ByteArray × ByteArray
def cfS (x y : Sn) : Int := Lib.compareBytes x.1.data.toList y.1.data.toList
/-- Less, by where they begin. -/
def ltS (x y : Sn) : Bool := Ord.lt x.1 y.1
theorem cmp_less : ∀ x y : List UInt8, Lib.compareBytes x y < 0 ↔ Op.bytesLess x y = true
  | [], [] => by simp [Op.bytesLess, Lib.compareBytes]
  | _ :: _, [] => by simp [Op.bytesLess, Lib.compareBytes]
  | [], _ :: _ => by simp [Op.bytesLess, Lib.compareBytes]
  | a :: x, b :: y => by
    rw [Op.bytesLess, Lib.compareBytes, Bool.or_eq_true, Bool.and_eq_true, ← cmp_less x y]
    by_cases h1 : a < b
    · simp [h1]
    · by_cases h2 : b < a
      · have : a ≠ b := fun h => by subst h; exact h1 h2
        simp [h1, h2, this]
      · have : a = b := UInt8.le_antisymm (UInt8.not_lt.1 h2) (UInt8.not_lt.1 h1)
        simp [this]
theorem cf_lt (x y : Sn) : cfS x y < 0 ↔ ltS x y = true := by
  unfold cfS ltS Ord.lt
  rw [Go.ByteArray.toList_eq, Go.ByteArray.toList_eq]
  exact cmp_less _ _
theorem cf_lt_no (x y : Sn) : ¬ cfS x y < 0 ↔ ltS x y = false := by rw [cf_lt]; simp
theorem ltS_swo : Go.Sort.SWO ltS := ⟨fun x => Ord.lt_irr _, fun x y z => Ord.lt_trans, fun x y z h h' => Ord.le_trans h' h⟩
theorem ordCmp (x y : Sn) (W : World) : Calls Try.prog 33 #[.agg #[], .agg #[.string x.1, .string x.2], .agg #[.string y.1, .string y.2]] W fun e w' => e = .returned (.int .i64 (cfS x y)) ∧ Below W.heap.size W w' :=
  ordCompare x.1 x.2 y.1 y.2 W
/-- A row of spans in memory of the call's own. -/
def Lies (w : World) (g : Nat) (d : Array Sn) : Prop := ∃ cs, Blk w g 26 cs ∧ ∀ i, i < d.size → cs[i * 2]? = some (.string d[i]!.1) ∧ cs[i * 2 + 1]? = some (.string d[i]!.2)
section
variable {w w' : World} {g : Nat} {d : Array Sn} {i j : Nat}
theorem Lies.c0 (h : Lies w g d) (hi : i < d.size) : w.cell? ⟨g, i * 2, none⟩ = some (.string d[i]!.1) := by obtain ⟨cs, h, h0⟩ := h; exact (h.cell _).trans (h0 i hi).1
theorem Lies.c1 (h : Lies w g d) (hi : i < d.size) : w.cell? ⟨g, i * 2 + 1, none⟩ = some (.string d[i]!.2) := by obtain ⟨cs, h, h0⟩ := h; exact (h.cell _).trans (h0 i hi).2
theorem Lies.at0 {x : Sn} (h : Lies w g d) (hi : i < d.size) (hx : x = d[i]!) : w.cell? ⟨g, i * 2, none⟩ = some (.string x.1) := by rw [hx]; exact h.c0 hi
theorem Lies.at1 {x : Sn} (h : Lies w g d) (hi : i < d.size) (hx : x = d[i]!) : w.cell? ⟨g, i * 2 + 1, none⟩ = some (.string x.2) := by rw [hx]; exact h.c1 hi
theorem Lies.fr (h : Lies w g d) (i : Nat) : w.frozen? ⟨g, i, none⟩ = false := by obtain ⟨cs, h, _⟩ := h; exact h.frozen i
theorem Lies.lt (h : Lies w g d) : g < w.heap.size := by obtain ⟨cs, h, _⟩ := h; exact h.lt
theorem Lies.below {B : Nat} (h : Lies w g d) (hb : Below B w w') (hg : g < B) : Lies w' g d := by obtain ⟨cs, h, h'⟩ := h; exact ⟨cs, h.below hb hg, h'⟩
theorem Lies.drewN (h : Lies w g d) (n : Nat) : Lies (w.drewN n) g d := h
theorem Lies.far (h : Lies w g d) {p : Addr} (hp : g ≠ p.block) (u : Value) : Lies (w.setCell p u) g d := by obtain ⟨cs, h, h'⟩ := h; exact ⟨cs, h.far hp u, h'⟩
theorem Lies.ex (h : Lies w g d) (k x : Nat) (u : Value) (hk : k < d.size * 2) : ∃ v, (w.setCell ⟨g, x, none⟩ u).cell? ⟨g, k, none⟩ = some v := by
  obtain ⟨cs, h, hc⟩ := h
  have z : k < cs.size := by
    have := (Array.getElem?_eq_some_iff.1 (hc (k / 2) (by omega)).2).1
    omega
  exact ⟨_, ((h.set x u).cell k).trans (Array.getElem?_eq_getElem (by simpa using z))⟩
theorem Lies.ex2 (h : Lies w g d) (k x y : Nat) (u u' : Value) (hk : k < d.size * 2) : ∃ v, ((w.setCell ⟨g, x, none⟩ u).setCell ⟨g, y, none⟩ u').cell? ⟨g, k, none⟩ = some v := by
  obtain ⟨cs, h, hc⟩ := h
  have z : k < cs.size := by
    have := (Array.getElem?_eq_some_iff.1 (hc (k / 2) (by omega)).2).1
    omega
  exact ⟨_, (((h.set x u).set y u').cell k).trans (Array.getElem?_eq_getElem (by simpa using z))⟩
/-- The exchange: four cells are written. -/
theorem Lies.swap (h : Lies w g d) (hi : i < d.size) (hj : j < d.size) : Lies ((((w.setCell ⟨g, i * 2, none⟩ (.string d[j]!.1)).setCell ⟨g, i * 2 + 1, none⟩ (.string d[j]!.2)).setCell ⟨g, j * 2, none⟩ (.string d[i]!.1)).setCell ⟨g, j * 2 + 1, none⟩ (.string d[i]!.2)) g (Go.Sort.swp d i j) := by
  obtain ⟨cs, h, hc⟩ := h
  have z : ∀ x, x < d.size → x * 2 + 1 < cs.size := fun x hx => (Array.getElem?_eq_some_iff.1 (hc x hx).2).1
  have zi := z i hi
  have zj := z j hj
  refine ⟨_, (((h.set _ _).set _ _).set _ _).set _ _, ?_⟩
  intro x hx
  rw [Go.Sort.size_swp] at hx
  have zx := z x hx
  have hcx := hc x hx
  have e1 : ∀ p q : Nat, p * 2 = q * 2 + 1 ↔ False := fun p q => ⟨fun h => by omega, False.elim⟩
  have e2 : ∀ p q : Nat, p * 2 + 1 = q * 2 ↔ False := fun p q => ⟨fun h => by omega, False.elim⟩
  have e3 : ∀ p q : Nat, p * 2 = q * 2 ↔ p = q := fun p q => ⟨fun h => by omega, fun h => by rw [h]⟩
  have e4 : ∀ p q : Nat, p * 2 + 1 = q * 2 + 1 ↔ p = q := fun p q => ⟨fun h => by omega, fun h => by rw [h]⟩
  simp only [Array.getElem?_setIfInBounds, Array.size_setIfInBounds, e1, e2, e3, e4, if_false]
  by_cases hxj : j = x
  · subst hxj
    rw [Go.Sort.swp_right _ _ _ hj]
    simp [show j * 2 < cs.size by omega, zx]
  · by_cases hxi : i = x
    · subst hxi
      rw [Go.Sort.swp_left _ _ _ hi (fun h => hxj h.symm)]
      simp [hxj, show i * 2 < cs.size by omega, zx]
    · rw [Go.Sort.swp_other _ _ _ _ (fun h => hxi h.symm) (fun h => hxj h.symm)]
      simp only [hxj, hxi, if_false]
      exact hcx
theorem below4 {B : Nat} (h : Below B w w') (hg : B ≤ g) (x y z t : Nat) (u1 u2 u3 u4 : Value) : Below B w ((((w'.setCell ⟨g, x, none⟩ u1).setCell ⟨g, y, none⟩ u2).setCell ⟨g, z, none⟩ u3).setCell ⟨g, t, none⟩ u4) :=
  (((h.setCell hg _).setCell hg _).setCell hg _).setCell hg _
end
end Cib
