/- The document's Free: the walk. -/
import Derived.Test.YthdanbpciifieaaBmpF
set_option linter.unusedVariables false
set_option linter.unusedSimpArgs false
set_option maxRecDepth 20000
namespace Bmp
/-- The taken places below j are the first q of the list. -/
def Cut (bs : List Bool) (q j : Nat) : Prop := ∀ t (h : t < (trues bs 0).length), t < q ↔ (trues bs 0)[t] < j
theorem Cut.zero (bs : List Bool) : Cut bs 0 0 := fun t h => by omega
theorem Cut.hit {bs : List Bool} {q j : Nat} (h : Cut bs q j) (hq : q < (trues bs 0).length) (e : (trues bs 0)[q] = j) : Cut bs (q + 1) (j + 1) := fun t ht => by
  have hs := List.pairwise_iff_getElem.1 (trues_sorted bs 0)
  constructor
  · intro h1
    rcases Nat.lt_or_ge t q with h2 | h2
    · have := (h t ht).1 h2
      omega
    · have : t = q := by omega
      subst this
      omega
  · intro h1
    rcases Nat.lt_or_ge q t with h2 | h2
    · have := hs q t hq ht h2
      omega
    · omega
theorem Cut.miss {bs : List Bool} {q j : Nat} (h : Cut bs q j) (hm : ∀ hq : q < (trues bs 0).length, (trues bs 0)[q] ≠ j) : Cut bs q (j + 1) := fun t ht => by
  have hs := List.pairwise_iff_getElem.1 (trues_sorted bs 0)
  constructor
  · intro h1
    have := (h t ht).1 h1
    omega
  · intro h1
    by_cases h2 : (trues bs 0)[t] < j
    · exact (h t ht).2 h2
    · have h3 : (trues bs 0)[t] = j := by omega
      have h4 : ¬ t < q := fun h5 => h2 ((h t ht).1 h5)
      rcases Nat.eq_or_lt_of_le (Nat.le_of_not_lt h4) with e | h5
      · subst e
        exact absurd h3 (hm ht)
      · have h6 : q < (trues bs 0).length := by omega
        have h7 := hs q t h6 ht h5
        have h8 : ¬ (trues bs 0)[q] < j := fun h9 => Nat.lt_irrefl _ ((h q h6).2 h9)
        omega
theorem Cut.le {bs : List Bool} {q j : Nat} (h : Cut bs q j) (hq : q ≤ (trues bs 0).length) : q ≤ (trues bs 0).length := hq
end Bmp
