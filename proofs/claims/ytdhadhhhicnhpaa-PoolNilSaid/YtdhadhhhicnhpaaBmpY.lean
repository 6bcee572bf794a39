/- The places taken, as a rising list, and what the document's map does with it: plain Lean, no program. -/
import Derived.Test.YtdhadhhhicnhpaaBmpQ
set_option linter.unusedVariables false
set_option linter.unusedSimpArgs false
namespace Bmp
def trues : List Bool → Nat → List Nat
  | [], _ => []
  | b :: l, i => if b then i :: trues l (i + 1) else trues l (i + 1)
theorem trues_mem : ∀ (l : List Bool) (i x : Nat), x ∈ trues l i ↔ i ≤ x ∧ l.getD (x - i) false = true
  | [], i, x => by simp [trues]
  | b :: l, i, x => by
    have ih := trues_mem l (i + 1) x
    have hs : i + 1 ≤ x → (b :: l).getD (x - i) false = l.getD (x - (i + 1)) false := fun h => by
      rw [show x - i = (x - (i + 1)) + 1 from by omega]
      rfl
    have h0 : (b :: l).getD 0 false = b := rfl
    cases b
    · simp only [trues, Bool.false_eq_true, if_false, ih]
      constructor
      · rintro ⟨h1, h2⟩
        exact ⟨by omega, by rw [hs h1]; exact h2⟩
      · rintro ⟨h1, h2⟩
        rcases Nat.eq_or_lt_of_le h1 with e | h3
        · subst e
          rw [Nat.sub_self, h0] at h2
          cases h2
        · exact ⟨h3, by rw [← hs h3]; exact h2⟩
    · simp only [trues, if_true, List.mem_cons, ih]
      constructor
      · rintro (rfl | ⟨h1, h2⟩)
        · exact ⟨Nat.le_refl _, by rw [Nat.sub_self]; exact h0⟩
        · exact ⟨by omega, by rw [hs h1]; exact h2⟩
      · rintro ⟨h1, h2⟩
        rcases Nat.eq_or_lt_of_le h1 with e | h3
        · exact .inl e.symm
        · exact .inr ⟨h3, by rw [← hs h3]; exact h2⟩
theorem trues_sorted : ∀ (l : List Bool) (i : Nat), (trues l i).Pairwise (· < ·)
  | [], _ => List.Pairwise.nil
  | b :: l, i => by
    have ih := trues_sorted l (i + 1)
    cases b
    · simp only [trues, Bool.false_eq_true, if_false]
      exact ih
    · simp only [trues, if_true]
      exact List.Pairwise.cons (fun y hy => by have := ((trues_mem l (i + 1) y).1 hy).1; omega) ih
theorem trues_length : ∀ (l : List Bool) (i : Nat), (trues l i).length = l.count true
  | [], _ => rfl
  | b :: l, i => by
    have ih := trues_length l (i + 1)
    cases b <;> simp [trues, List.count_cons, ih]
theorem mem_trues {bs : List Bool} {x : Nat} : x ∈ trues bs 0 ↔ bs.getD x false = true := by
  rw [trues_mem]
  simp
theorem trues_lt {bs : List Bool} {x : Nat} (h : x ∈ trues bs 0) : x < bs.length := by
  have h1 := mem_trues.1 h
  by_cases hx : x < bs.length
  · exact hx
  · rw [List.getD, List.getElem?_eq_none (by omega)] at h1
    cases h1
theorem trues_none (n i : Nat) : trues (List.replicate n false) i = [] := by
  induction n generalizing i with
  | zero => rfl
  | succ n ih => rw [List.replicate_succ, trues, if_neg (by decide), ih]
/-- Two rising lists of the same members are one. -/
theorem sorted_ext : ∀ {l m : List Nat}, l.Pairwise (· < ·) → m.Pairwise (· < ·) → (∀ x, x ∈ l ↔ x ∈ m) → l = m
  | [], [], _, _, _ => rfl
  | [], y :: m, _, _, h => by have := (h y).2 (List.mem_cons_self ..); cases this
  | x :: l, [], _, _, h => by have := (h x).1 (List.mem_cons_self ..); cases this
  | x :: l, y :: m, hl, hm, h => by
    have hl' := List.pairwise_cons.1 hl
    have hm' := List.pairwise_cons.1 hm
    have e : x = y := by
      rcases List.mem_cons.1 ((h x).1 (List.mem_cons_self ..)) with h1 | h1
      · exact h1
      · rcases List.mem_cons.1 ((h y).2 (List.mem_cons_self ..)) with h2 | h2
        · exact h2.symm
        · have := hl'.1 y h2
          have := hm'.1 x h1
          omega
    subst e
    congr 1
    refine sorted_ext hl'.2 hm'.2 fun z => ⟨fun hz => ?_, fun hz => ?_⟩
    · rcases List.mem_cons.1 ((h z).1 (List.mem_cons_of_mem _ hz)) with h1 | h1
      · subst h1
        have := hl'.1 z hz
        omega
      · exact h1
    · rcases List.mem_cons.1 ((h z).2 (List.mem_cons_of_mem _ hz)) with h1 | h1
      · subst h1
        have := hm'.1 z hz
        omega
      · exact h1
/-- What the document's Set makes of what is left of the list; has i been put? -/
def putIn (i : Nat) : List Nat → Bool → List Nat
  | [], put => if put then [] else [i]
  | x :: l, put => (if put = false ∧ i < x then [i] else []) ++ ((if x ≠ i then [x] else []) ++ putIn i l (put || decide (i < x)))
theorem putIn_mem (i : Nat) : ∀ (l : List Nat) (put : Bool) (y : Nat), y ∈ putIn i l put ↔ (y ∈ l ∧ y ≠ i) ∨ (y = i ∧ put = false)
  | [], put, y => by cases put <;> simp [putIn]
  | x :: l, put, y => by
    have ih := putIn_mem i l (put || decide (i < x)) y
    simp only [putIn, List.mem_append, ih, List.mem_cons]
    by_cases hx : x = i
    · subst hx
      cases put <;> by_cases hy : y = x <;> simp_all
    · by_cases hi : i < x
      · cases put <;> simp [hx, hi] <;> by_cases hy : y = x <;> by_cases hyi : y = i <;> simp_all
      · cases put <;> simp [hx, hi] <;> by_cases hy : y = x <;> by_cases hyi : y = i <;> simp_all
theorem putIn_true (i : Nat) : ∀ l : List Nat, l.Pairwise (· < ·) → (putIn i l true).Pairwise (· < ·)
  | [], _ => by simp [putIn]
  | x :: l, h => by
    have h' := List.pairwise_cons.1 h
    have ih := putIn_true i l h'.2
    simp only [putIn, Bool.true_or, Bool.true_eq_false, false_and, if_false, List.nil_append]
    by_cases hx : x = i
    · simp only [hx, ne_eq, not_true_eq_false, if_false, List.nil_append]
      exact ih
    · simp only [ne_eq, hx, not_false_eq_true, if_true, List.singleton_append]
      refine List.Pairwise.cons (fun y hy => ?_) ih
      rcases (putIn_mem i l true y).1 hy with ⟨h1, _⟩ | ⟨_, h1⟩
      · exact h'.1 y h1
      · cases h1
theorem putIn_false (i : Nat) : ∀ l : List Nat, l.Pairwise (· < ·) → (putIn i l false).Pairwise (· < ·)
  | [], _ => by simp [putIn]
  | x :: l, h => by
    have h' := List.pairwise_cons.1 h
    by_cases hi : i < x
    · have hx : x ≠ i := by omega
      have ih := putIn_true i l h'.2
      have e : putIn i (x :: l) false = i :: x :: putIn i l true := by simp [putIn, hi, hx]
      rw [e]
      have hy : ∀ y ∈ putIn i l true, x < y := fun y hy => by
        rcases (putIn_mem i l true y).1 hy with ⟨h1, _⟩ | ⟨_, h1⟩
        · exact h'.1 y h1
        · cases h1
      refine List.Pairwise.cons (fun y h2 => ?_) (List.Pairwise.cons hy ih)
      rcases List.mem_cons.1 h2 with rfl | h2
      · exact hi
      · have := hy y h2
        omega
    · have ih := putIn_false i l h'.2
      by_cases hx : x = i
      · have e : putIn i (x :: l) false = putIn i l false := by simp [putIn, hi, hx]
        rw [e]
        exact ih
      · have e : putIn i (x :: l) false = x :: putIn i l false := by simp [putIn, hi, hx]
        rw [e]
        refine List.Pairwise.cons (fun y hy => ?_) ih
        rcases (putIn_mem i l false y).1 hy with ⟨h1, _⟩ | ⟨h1, _⟩
        · exact h'.1 y h1
        · omega
theorem putIn_set {bs : List Bool} {i : Nat} {on : Bool} (h : i < bs.length) (hne : bs[i] ≠ on) : putIn i (trues bs 0) (!on) = trues (bs.set i on) 0 := by
  refine sorted_ext ?_ (trues_sorted _ _) fun y => ?_
  · cases on
    · exact putIn_true i _ (trues_sorted _ _)
    · exact putIn_false i _ (trues_sorted _ _)
  · rw [putIn_mem, mem_trues, mem_trues]
    by_cases e : y = i
    · subst e
      cases on <;> simp [List.getD, List.getElem?_set, h]
    · have e' : ¬ i = y := fun h => e h.symm
      simp [List.getD, List.getElem?_set, e, e']
end Bmp
