/- The document's Run in plain words, and that it is the program's. -/
import Derived.Test.YthdanbpciifieaaBmpI
set_option linter.unusedVariables false
set_option linter.unusedSimpArgs false
set_option maxRecDepth 20000
namespace Bmp
/-- What the document's Run answers, of the free places. -/
def runL (m : Nat) : List Nat → Int
  | [] => -1
  | x :: l => if (x :: l)[m - 1]? = some (x + m - 1) then (x : Int) else runL m l
theorem runL_short (m : Nat) : ∀ l : List Nat, l.length < m → runL m l = -1
  | [], _ => rfl
  | x :: l, h => by
    rw [runL, if_neg, runL_short m l (by simp at h; omega)]
    rw [List.getElem?_eq_none (by simp at h ⊢; omega)]
    exact fun e => by cases e
/-- the first run of so many places of which something holds -/
def RunAt (Q : Nat → Prop) (m : Nat) (R : Int) : Prop :=
  (R = -1 ∧ ∀ p : Nat, ¬ ∀ k, k < m → Q (p + k)) ∨ (∃ p : Nat, R = p ∧ (∀ k, k < m → Q (p + k)) ∧ ∀ p', p' < p → ¬ ∀ k, k < m → Q (p' + k))
theorem RunAt.one {Q : Nat → Prop} {m : Nat} {R R' : Int} (h : RunAt Q m R) (h' : RunAt Q m R') : R = R' := by
  rcases h with ⟨rfl, h1⟩ | ⟨p, rfl, h1, h2⟩
  · rcases h' with ⟨rfl, _⟩ | ⟨p', _, h3, _⟩
    · rfl
    · exact absurd h3 (h1 p')
  · rcases h' with ⟨_, h3⟩ | ⟨p', rfl, h3, h4⟩
    · exact absurd h1 (h3 p)
    · rcases Nat.lt_trichotomy p p' with h5 | h5 | h5
      · exact absurd h1 (h4 p h5)
      · rw [h5]
      · exact absurd h3 (h2 p' h5)
theorem RunAt.congr {Q Q' : Nat → Prop} {m : Nat} {R : Int} (h : RunAt Q m R) (e : ∀ x, Q x ↔ Q' x) : RunAt Q' m R := by
  have : Q = Q' := funext fun x => propext (e x)
  rw [← this]
  exact h
theorem sorted_ge : ∀ (l : List Nat) (x : Nat), (x :: l).Pairwise (· < ·) → ∀ j (h : j < (x :: l).length), x + j ≤ (x :: l)[j]
  | _, x, _, 0, _ => by simp
  | [], x, _, j + 1, h => by simp at h
  | y :: l, x, hs, j + 1, h => by
    have h1 := List.pairwise_cons.1 hs
    have h2 := h1.1 y (List.mem_cons_self ..)
    have h3 := sorted_ge l y h1.2 j (by simpa using h)
    rw [List.getElem_cons_succ]
    omega
/-- The m-th of a rising list from its head on lies m - 1 behind it just if all between are there. -/
theorem hit_iff : ∀ (m : Nat) (l : List Nat) (x : Nat), (x :: l).Pairwise (· < ·) → ((x :: l)[m]? = some (x + m) ↔ ∀ k, k < m + 1 → x + k ∈ x :: l)
  | 0, l, x, _ => by
    constructor
    · intro _ k hk
      obtain rfl : k = 0 := by omega
      exact List.mem_cons_self ..
    · intro _
      rfl
  | m + 1, [], x, _ => by
    constructor
    · intro h
      cases h
    · intro h
      have := h 1 (by omega)
      simp at this
  | m + 1, y :: l, x, hs => by
    have h1 := List.pairwise_cons.1 hs
    have h2 := h1.1 y (List.mem_cons_self ..)
    have ih := hit_iff m l y h1.2
    rw [List.getElem?_cons_succ]
    constructor
    · intro h k hk
      obtain ⟨hl, he⟩ := List.getElem?_eq_some_iff.1 h
      have h3 := sorted_ge l y h1.2 m hl
      obtain rfl : y = x + 1 := by omega
      rcases k with _ | k
      · exact List.mem_cons_self ..
      · refine List.mem_cons_of_mem _ ?_
        have := ih.1 (by rw [h]; congr 1; omega) k (by omega)
        rwa [show x + 1 + k = x + (k + 1) from by omega] at this
    · intro h
      have h3 : y = x + 1 := by
        have h4 := h 1 (by omega)
        rcases List.mem_cons.1 h4 with h5 | h5
        · omega
        · rcases List.mem_cons.1 h5 with h6 | h6
          · exact h6.symm
          · have := (List.pairwise_cons.1 h1.2).1 _ h6
            omega
      subst h3
      have h7 := ih.2 (fun k hk => by
        have h8 := h (k + 1) (by omega)
        rcases List.mem_cons.1 h8 with h9 | h9
        · omega
        · rwa [show x + 1 + k = x + (k + 1) from by omega])
      rw [h7]
      congr 1
      omega
theorem runL_at (m : Nat) : ∀ l : List Nat, l.Pairwise (· < ·) → RunAt (· ∈ l) (m + 1) (runL (m + 1) l)
  | [], _ => .inl ⟨rfl, fun p h => by cases h 0 (by omega)⟩
  | x :: l, hs => by
    have hh := hit_iff m l x hs
    rw [runL, show m + 1 - 1 = m from by omega, show x + (m + 1) - 1 = x + m from by omega]
    have h1 := List.pairwise_cons.1 hs
    by_cases hx : (x :: l)[m]? = some (x + m)
    · rw [if_pos hx]
      refine .inr ⟨x, rfl, hh.1 hx, fun p' hp' h => ?_⟩
      have := h 0 (by omega)
      rcases List.mem_cons.1 this with h2 | h2
      · omega
      · have := h1.1 _ h2
        omega
    · rw [if_neg hx]
      have hno : ¬ ∀ k, k < m + 1 → x + k ∈ x :: l := fun h => hx (hh.2 h)
      have key : ∀ p, (∀ k, k < m + 1 → p + k ∈ x :: l) ↔ ∀ k, k < m + 1 → p + k ∈ l := fun p => by
        constructor
        · intro h k hk
          rcases List.mem_cons.1 (h k hk) with h2 | h2
          · have h3 := h 0 (by omega)
            rcases List.mem_cons.1 h3 with h4 | h4
            · rw [Nat.add_zero] at h4
              subst h4
              exact absurd h hno
            · have := h1.1 _ h4
              omega
          · exact h2
        · exact fun h k hk => List.mem_cons_of_mem _ (h k hk)
      rcases runL_at m l h1.2 with ⟨e, h2⟩ | ⟨p, e, h2, h3⟩
      · exact .inl ⟨e, fun p h => h2 p ((key p).1 h)⟩
      · exact .inr ⟨p, e, (key p).2 h2, fun p' hp' h => h3 p' hp' ((key p').1 h)⟩
theorem freeFrom_mem {bs : List Bool} {from_ : Int} {x : Nat} : x ∈ freeFrom bs from_ ↔ bs.getD x true = false ∧ from_ ≤ (x : Int) := by
  unfold freeFrom
  rw [List.mem_filter, free_mem]
  simp
theorem freeFrom_sorted (bs : List Bool) (from_ : Int) : (freeFrom bs from_).Pairwise (· < ·) := (free_sorted bs 0).filter _
theorem run_at (bs : List Bool) (from_ : Int) (m : Nat) (hm : 1 ≤ m) : ∀ (d i side : Nat), bs.length - i ≤ d → side < m → side ≤ i → (∀ k, i - side ≤ k → k < i → k ∈ freeFrom bs from_) →
    (∀ p : Nat, (∀ k, k < m → p + k ∈ freeFrom bs from_) → i - side ≤ p) → from_ ≤ (i : Int) → RunAt (· ∈ freeFrom bs from_) m (run m (bs.drop i) i side) := by
  intro d
  induction d with
  | zero =>
    intro i side hd hs hsi hq hp hf
    rw [run_end m bs side (by omega)]
    refine .inl ⟨rfl, fun p h => ?_⟩
    have h1 := hp p h
    have h2 := (freeFrom_mem.1 (h (m - 1) (by omega))).1
    rw [List.getD, List.getElem?_eq_none (by omega)] at h2
    cases h2
  | succ d ih =>
    intro i side hd hs hsi hq hp hf
    by_cases hi : i < bs.length
    · rw [run_step m bs side hi]
      have hg : bs.getD i true = bs[i] := by simp [List.getD, List.getElem?_eq_getElem hi]
      by_cases hb : bs[i] = true
      · rw [if_pos hb]
        refine ih (i + 1) 0 (by omega) (by omega) (by omega) (fun k h1 h2 => by omega) (fun p h => ?_) (by omega)
        have h1 := hp p h
        rcases Nat.lt_or_ge i p with h2 | h2
        · omega
        · have h3 := (freeFrom_mem.1 (h (i - p) (by omega))).1
          rw [show p + (i - p) = i from by omega, hg, hb] at h3
          cases h3
      · rw [if_neg hb]
        have hb' : bs[i] = false := by simpa using hb
        have hq' : ∀ k, i + 1 - (side + 1) ≤ k → k < i + 1 → k ∈ freeFrom bs from_ := fun k h1 h2 => by
          rcases Nat.lt_or_ge k i with h3 | h3
          · exact hq k (by omega) h3
          · obtain rfl : k = i := by omega
            exact freeFrom_mem.2 ⟨by rw [hg, hb'], hf⟩
        by_cases hsm : side + 1 = m
        · rw [if_pos hsm]
          refine .inr ⟨i - side, by omega, fun k hk => hq' _ (by omega) (by omega), fun p' hp' h => ?_⟩
          have := hp p' h
          omega
        · rw [if_neg hsm]
          exact ih (i + 1) (side + 1) (by omega) (by omega) (by omega) hq' (fun p h => by have := hp p h; omega) (by omega)
    · exact (by
        rw [run_end m bs side (by omega)]
        refine .inl ⟨rfl, fun p h => ?_⟩
        have h1 := hp p h
        have h2 := (freeFrom_mem.1 (h (m - 1) (by omega))).1
        rw [List.getD, List.getElem?_eq_none (by omega)] at h2
        cases h2)
theorem runF_eq (bs : List Bool) (from_ : Int) (m : Nat) : runF bs from_ ((m + 1 : Nat) : Int) = runL (m + 1) (freeFrom bs from_) := by
  refine RunAt.one (Q := (· ∈ freeFrom bs from_)) (m := m + 1) ?_ (runL_at m _ (freeFrom_sorted bs from_))
  unfold runF
  rw [if_neg (by omega), Int.toNat_natCast]
  refine run_at bs from_ (m + 1) (by omega) bs.length from_.toNat 0 (by omega) (by omega) (by omega) (fun k h1 h2 => by omega) (fun p h => ?_) (by omega)
  have := (freeFrom_mem.1 (h 0 (by omega))).2
  omega
theorem runF_one (bs : List Bool) (from_ : Int) : runF bs from_ 1 = Cib.fstI (freeFrom bs from_) := by
  have := runF_eq bs from_ 0
  rw [show ((0 + 1 : Nat) : Int) = 1 from rfl] at this
  rw [this]
  cases freeFrom bs from_ with
  | nil => rfl
  | cons x l => simp [runL, Cib.fstI]
theorem leastF_eq (bs : List Bool) (many : Int) : leastF bs many = if many < 1 ∨ many > ((freeFrom bs 0).length : Int) then [] else (freeFrom bs 0).take many.toNat := by
  have hf : freeFrom bs 0 = free bs 0 := by
    unfold freeFrom
    exact List.filter_eq_self.2 fun x _ => by simp
  have hl := free_length bs 0
  unfold leastF
  rw [hf]
  by_cases h : many < 1 ∨ many > ((free bs 0).length : Int)
  · rw [if_pos h, if_pos (by omega)]
  · rw [if_neg h, if_neg (by omega)]
end Bmp
