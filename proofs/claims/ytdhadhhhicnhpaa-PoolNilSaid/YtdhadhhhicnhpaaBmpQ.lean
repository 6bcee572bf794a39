/- The least free places, taken: plain Lean, no program. -/
import Derived.Test.YtdhadhhhicnhpaaBmpP
set_option linter.unusedVariables false
set_option linter.unusedSimpArgs false
namespace Bmp
theorem free_mem : ∀ (l : List Bool) (i x : Nat), x ∈ free l i ↔ i ≤ x ∧ l.getD (x - i) true = false
  | [], i, x => by simp [free]
  | b :: l, i, x => by
    have ih := free_mem l (i + 1) x
    have hs : i + 1 ≤ x → (b :: l).getD (x - i) true = l.getD (x - (i + 1)) true := fun h => by
      rw [show x - i = (x - (i + 1)) + 1 from by omega]
      rfl
    have h0 : (b :: l).getD 0 true = b := rfl
    cases b
    · simp only [free, Bool.false_eq_true, if_false, List.mem_cons, ih]
      constructor
      · rintro (rfl | ⟨h1, h2⟩)
        · exact ⟨Nat.le_refl _, by rw [Nat.sub_self]; exact h0⟩
        · exact ⟨by omega, by rw [hs h1]; exact h2⟩
      · rintro ⟨h1, h2⟩
        rcases Nat.eq_or_lt_of_le h1 with e | h3
        · exact .inl e.symm
        · exact .inr ⟨h3, by rw [← hs h3]; exact h2⟩
    · simp only [free, if_true, ih]
      constructor
      · rintro ⟨h1, h2⟩
        exact ⟨by omega, by rw [hs h1]; exact h2⟩
      · rintro ⟨h1, h2⟩
        rcases Nat.eq_or_lt_of_le h1 with e | h3
        · subst e
          rw [Nat.sub_self, h0] at h2
          cases h2
        · exact ⟨h3, by rw [← hs h3]; exact h2⟩
theorem free_sorted : ∀ (l : List Bool) (i : Nat), (free l i).Pairwise (· < ·)
  | [], _ => List.Pairwise.nil
  | b :: l, i => by
    have ih := free_sorted l (i + 1)
    cases b
    · simp only [free, Bool.false_eq_true, if_false]
      exact List.Pairwise.cons (fun y hy => by have := ((free_mem l (i + 1) y).1 hy).1; omega) ih
    · simp only [free, if_true]
      exact ih
def setN (bs : List Bool) (L : List Nat) : List Bool := L.foldl (fun b x => b.set x true) bs
theorem setN_length (L : List Nat) : ∀ bs, (setN bs L).length = bs.length := by
  induction L with
  | nil => exact fun _ => rfl
  | cons x L ih => exact fun bs => by rw [setN, List.foldl_cons]; exact (ih _).trans (List.length_set ..)
theorem setN_get (L : List Nat) : ∀ (bs : List Bool) (x : Nat), x < bs.length → (setN bs L).getD x false = (bs.getD x false || decide (x ∈ L)) := by
  induction L with
  | nil => intro bs x _; simp [setN]
  | cons y L ih =>
    intro bs x hx
    have h := ih (bs.set y true) x (by rw [List.length_set]; exact hx)
    rw [setN, List.foldl_cons]
    refine Eq.trans h ?_
    by_cases e : x = y
    · subst e
      simp [List.getD, List.getElem?_set, hx]
    · have e' : ¬ y = x := fun h => e h.symm
      simp [List.getD, List.getElem?_set, e, e']
theorem setN_take (bs : List Bool) (L : List Nat) (k : Nat) (h : k < L.length) : setN bs (L.take (k + 1)) = (setN bs (L.take k)).set L[k] true := by
  rw [List.take_succ_eq_append_getElem h, setN, List.foldl_append]
  rfl
theorem count_set_true : ∀ (l : List Bool) (i : Nat) (h : i < l.length), l[i] = false → (l.set i true).count true = l.count true + 1
  | b :: l, 0, h, hf => by
    simp at hf
    subst hf
    simp [List.count_cons]
  | b :: l, i + 1, h, hf => by
    have ih := count_set_true l i (by simpa using h) (by simpa using hf)
    rw [List.set_cons_succ, List.count_cons, List.count_cons, ih]
    omega
section
variable {bs : List Bool} {m : Nat}
theorem least_lt {x : Nat} (h : x ∈ (free bs 0).take m) : x < bs.length ∧ bs.getD x false = false := by
  have h1 := ((free_mem bs 0 x).1 (List.mem_of_mem_take h)).2
  rw [Nat.sub_zero] at h1
  by_cases hx : x < bs.length
  · refine ⟨hx, ?_⟩
    rw [List.getD, List.getElem?_eq_getElem hx, Option.getD_some] at h1 ⊢
    exact h1
  · rw [List.getD, List.getElem?_eq_none (by omega)] at h1
    cases h1
/-- Each of them is free when its turn comes. -/
theorem least_free {k : Nat} (h : k < ((free bs 0).take m).length) :
    ((free bs 0).take m)[k] < bs.length ∧ (setN bs (((free bs 0).take m).take k)).getD ((free bs 0).take m)[k] false = false := by
  have hm := List.getElem_mem h
  obtain ⟨h1, h2⟩ := least_lt hm
  refine ⟨h1, ?_⟩
  rw [setN_get _ _ _ h1, h2, Bool.false_or, decide_eq_false]
  intro hin
  obtain ⟨j, hj, e⟩ := List.getElem_of_mem hin
  rw [List.length_take] at hj
  rw [List.getElem_take] at e
  have hp : ((free bs 0).take m).Pairwise (· < ·) := (free_sorted bs 0).sublist (List.take_sublist _ _)
  have := List.pairwise_iff_getElem.1 hp j k (by omega) h (by omega)
  omega
/-- Behind them no free place is left up to the last one. -/
theorem least_all {i k : Nat} (h : k < ((free bs 0).take m).length) (hi : i ≤ ((free bs 0).take m)[k]) : i < bs.length ∧ (setN bs ((free bs 0).take m)).getD i false = true := by
  obtain ⟨h1, h2⟩ := least_lt (List.getElem_mem h)
  have hin : i < bs.length := by omega
  refine ⟨hin, ?_⟩
  rw [setN_get _ _ _ hin]
  cases hb : bs.getD i false
  · rw [Bool.false_or, decide_eq_true]
    have hf : i ∈ free bs 0 := (free_mem bs 0 i).2 ⟨Nat.zero_le _, by
      rw [Nat.sub_zero, List.getD, List.getElem?_eq_getElem hin, Option.getD_some]
      rw [List.getD, List.getElem?_eq_getElem hin, Option.getD_some] at hb
      exact hb⟩
    have hs := free_sorted bs 0
    rw [← List.take_append_drop m (free bs 0)] at hf hs
    rcases List.mem_append.1 hf with h3 | h3
    · exact h3
    · have := (List.pairwise_append.1 hs).2.2 _ (List.getElem_mem h) _ h3
      omega
  · rfl
theorem least_count : ∀ k, k ≤ ((free bs 0).take m).length → (setN bs (((free bs 0).take m).take k)).count true = bs.count true + k
  | 0, _ => rfl
  | k + 1, hk => by
    obtain ⟨h1, h2⟩ := least_free (bs := bs) (m := m) (show k < _ from hk)
    have hl : ((free bs 0).take m)[k] < (setN bs (((free bs 0).take m).take k)).length := by rw [setN_length]; exact h1
    rw [List.getD, List.getElem?_eq_getElem hl, Option.getD_some] at h2
    rw [setN_take _ _ _ hk, count_set_true _ _ hl h2, least_count k (by omega)]
    omega
end
end Bmp
