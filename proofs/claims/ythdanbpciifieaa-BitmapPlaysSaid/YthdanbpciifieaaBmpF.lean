/- The document's Free. -/
import Derived.Test.YthdanbpciifieaaBmpZ
set_option linter.unusedVariables false
set_option linter.unusedSimpArgs false
set_option maxRecDepth 20000
namespace Bmp
/-- The free places from one on. -/
def freeFrom (bs : List Bool) (from_ : Int) : List Nat := (free bs 0).filter fun x => decide (from_ ≤ (x : Int))
/-- What Free has gathered when it comes to place i. -/
def freeTo (bs : List Bool) (from_ : Int) (i : Nat) : List Nat := ((List.range i).filter fun x => decide (bs.getD x true = false)).filter fun x => decide (from_ ≤ (x : Int))
theorem freeTo_succ (bs : List Bool) (from_ : Int) (i : Nat) : freeTo bs from_ (i + 1) = freeTo bs from_ i ++ (if bs.getD i true = false ∧ from_ ≤ (i : Int) then [i] else []) := by
  unfold freeTo
  rw [List.range_succ, List.filter_append, List.filter_append]
  congr 1
  simp only [List.filter_cons, List.filter_nil]
  by_cases h1 : bs.getD i true = false
  · by_cases h2 : from_ ≤ (i : Int)
    · simp only [h1, h2, decide_true, if_true, List.filter_cons, List.filter_nil, and_self]
    · simp only [h1, h2, decide_true, decide_false, if_true, List.filter_cons, List.filter_nil, and_false, if_false, Bool.false_eq_true]
  · rw [if_neg (by simpa using h1), if_neg (fun h => h1 h.1), List.filter_nil]
theorem range_sorted (n : Nat) : (List.range n).Pairwise (· < ·) := List.pairwise_lt_range
theorem freeTo_all (bs : List Bool) (from_ : Int) : freeTo bs from_ bs.length = freeFrom bs from_ := by
  unfold freeTo freeFrom
  congr 1
  refine sorted_ext ((range_sorted _).filter _) (free_sorted bs 0) fun x => ?_
  rw [List.mem_filter, List.mem_range, free_mem]
  simp only [decide_eq_true_eq, Nat.sub_zero, Nat.zero_le, true_and]
  constructor
  · exact fun h => h.2
  · intro h
    refine ⟨?_, h⟩
    by_cases hx : x < bs.length
    · exact hx
    · rw [List.getD, List.getElem?_eq_none (by omega)] at h
      cases h
/-- Of the taken places, those below i. -/
theorem trues_cut (bs : List Bool) (i : Nat) (k : Nat) (hk : ∀ j (h : j < (trues bs 0).length), j < k ↔ (trues bs 0)[j] < i) (hi : i < bs.length) :
    bs.getD i true = true ↔ ∃ h : k < (trues bs 0).length, (trues bs 0)[k] = i := by
  have hg : bs.getD i true = bs.getD i false := by simp [List.getD, List.getElem?_eq_getElem hi]
  rw [hg, ← mem_trues]
  constructor
  · intro hm
    obtain ⟨j, hj, e⟩ := List.getElem_of_mem hm
    have h1 : ¬ j < k := fun h => by have := (hk j hj).1 h; omega
    rcases Nat.eq_or_lt_of_le (Nat.le_of_not_lt h1) with e2 | h2
    · subst e2
      exact ⟨hj, e⟩
    · have h3 : k < (trues bs 0).length := by omega
      have h4 : ¬ (trues bs 0)[k] < i := fun h => Nat.lt_irrefl _ ((hk k h3).2 h)
      have h5 := List.pairwise_iff_getElem.1 (trues_sorted bs 0) k j h3 hj h2
      omega
  · rintro ⟨h, e⟩
    rw [← e]
    exact List.getElem_mem h
end Bmp
