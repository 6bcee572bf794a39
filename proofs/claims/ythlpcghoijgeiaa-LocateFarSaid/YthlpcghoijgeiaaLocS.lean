/- Sets of numbers, one behind the other: plain Lean. -/
import Derived.Test.YthlpcghoijgeiaaLocP
set_option linter.unusedVariables false
set_option linter.unusedSimpArgs false
namespace Loc
/-- Rising numbers from lo on, below n. -/
def Asc (n : Nat) : Nat → List Nat → Prop
  | _, [] => True
  | lo, a :: s => lo ≤ a ∧ a < n ∧ Asc n (a + 1) s
/-- One set comes ahead of another one. -/
def ltS : List Nat → List Nat → Prop
  | a :: s, b :: t => a < b ∨ (a = b ∧ ltS s t)
  | _, _ => False
def upS (lo len : Nat) : List Nat := List.range' lo len
theorem upS_length (lo len : Nat) : (upS lo len).length = len := by simp [upS]
theorem upS_succ (lo len : Nat) : upS lo (len + 1) = lo :: upS (lo + 1) len := by unfold upS; rw [List.range'_succ]
theorem upS_get {lo len j : Nat} (h : j < (upS lo len).length) : (upS lo len)[j] = lo + j := by simp [upS]
theorem Asc.len {n : Nat} : ∀ {lo : Nat} {s : List Nat}, Asc n lo s → s ≠ [] → lo + s.length ≤ n
  | lo, [], _, h => absurd rfl h
  | lo, [a], h, _ => by
    obtain ⟨h1, h2, _⟩ := h
    simp
    omega
  | lo, a :: b :: s, h, _ => by
    obtain ⟨h1, h2, h3⟩ := h
    have := h3.len (by simp)
    simp only [List.length_cons] at this ⊢
    omega
theorem Asc.up {n : Nat} : ∀ {lo len : Nat}, lo + len ≤ n → Asc n lo (upS lo len)
  | lo, 0, _ => by simp [upS, Asc]
  | lo, len + 1, h => by
    rw [upS_succ]
    exact ⟨Nat.le_refl _, by omega, Asc.up (by omega)⟩
theorem Asc.lt {n : Nat} : ∀ {lo : Nat} {s : List Nat}, Asc n lo s → ∀ u ∈ s, u < n
  | _, [], _, u, hu => by cases hu
  | lo, a :: s, h, u, hu => by
    rcases List.mem_cons.1 hu with rfl | hu
    · exact h.2.1
    · exact h.2.2.lt u hu
/-- None comes ahead of the first one. -/
theorem minS {n : Nat} : ∀ {lo : Nat} {t : List Nat}, Asc n lo t → ¬ ltS t (upS lo t.length)
  | lo, [], _ => by simp [upS, ltS]
  | lo, a :: t, h => by
    rw [List.length_cons, upS_succ]
    rintro (h1 | ⟨h1, h2⟩)
    · have := h.1
      omega
    · subst h1
      exact minS h.2.2 h2
/-- All come ahead of the last one, but itself. -/
theorem maxS {n : Nat} : ∀ {lo : Nat} {t : List Nat}, Asc n lo t → ltS t (upS (n - t.length) t.length) ∨ t = upS (n - t.length) t.length
  | lo, [], _ => .inr rfl
  | lo, a :: t, h => by
    have hl := h.len (by simp)
    rw [List.length_cons] at hl ⊢
    obtain ⟨h1, h2, h3⟩ := h
    rw [upS_succ]
    have hat : a + t.length < n := by
      cases t with
      | nil => simpa using h2
      | cons b t =>
        have := h3.len (by simp)
        simp only [List.length_cons] at this ⊢
        omega
    by_cases ha : a = n - (t.length + 1)
    · rcases maxS h3 with h4 | h4
      · exact .inl (.inr ⟨ha, by rw [show n - (t.length + 1) + 1 = n - t.length from by omega]; exact h4⟩)
      · refine .inr ?_
        rw [← ha, show a + 1 = n - t.length from by omega, ← h4]
    · exact .inl (.inl (by omega))
/-- What comes ahead of the next one, comes ahead of this one, or is it. -/
theorem nextS {n : Nat} : ∀ {p : List Nat} {lo : Nat} {a : Nat} {r t : List Nat}, r = upS (n - r.length) r.length → t.length = (p ++ a :: r).length → Asc n lo t → ltS t (p ++ upS (a + 1) (r.length + 1)) → ltS t (p ++ a :: r) ∨ t = p ++ a :: r
  | [], lo, a, r, [], hr, hl, ht, h => by simp at hl
  | [], lo, a, r, b :: t, hr, hl, ht, h => by
    rw [List.nil_append, upS_succ] at h
    simp only [List.nil_append, List.length_cons] at hl ⊢
    have hl' : t.length = r.length := by omega
    obtain ⟨h1, h2, h3⟩ := ht
    rcases h with h | ⟨h, h4⟩
    · by_cases hb : b = a
      · subst hb
        rcases maxS h3 with h5 | h5
        · rw [hl', ← hr] at h5
          exact .inl (.inr ⟨rfl, h5⟩)
        · rw [hl', ← hr] at h5
          rw [h5]
          exact .inr rfl
      · exact .inl (.inl (by omega))
    · subst h
      rw [← hl'] at h4
      exact absurd h4 (minS h3)
  | c :: p, lo, a, r, [], hr, hl, ht, h => by simp at hl
  | c :: p, lo, a, r, b :: t, hr, hl, ht, h => by
    simp only [List.cons_append, List.length_cons] at hl ⊢
    rw [List.cons_append] at h
    rcases h with h | ⟨h, h4⟩
    · exact .inl (.inl h)
    · subst h
      rcases nextS hr (by omega) ht.2.2 h4 with h5 | h5
      · exact .inl (.inr ⟨rfl, h5⟩)
      · rw [h5]
        exact .inr rfl
theorem Asc.next {n : Nat} : ∀ {p : List Nat} {lo a : Nat} {r : List Nat}, Asc n lo (p ++ a :: r) → a + 1 + r.length < n → Asc n lo (p ++ upS (a + 1) (r.length + 1))
  | [], lo, a, r, h, ha => by
    rw [List.nil_append, upS_succ]
    have h1 := h.1
    exact ⟨by omega, by omega, Asc.up (by omega)⟩
  | c :: p, lo, a, r, h, ha => ⟨h.1, h.2.1, h.2.2.next ha⟩
theorem ltS_next : ∀ {p : List Nat} {a : Nat} {r : List Nat}, ltS (p ++ a :: r) (p ++ upS (a + 1) (r.length + 1))
  | [], a, r => by
    rw [List.nil_append, upS_succ]
    exact .inl (Nat.lt_succ_self a)
  | c :: p, a, r => .inr ⟨rfl, ltS_next⟩
/-- A number that rises with the sets. -/
def val (n : Nat) : List Nat → Nat
  | [] => 0
  | a :: s => a * (n + 1) ^ s.length + val n s
theorem val_lt {n : Nat} : ∀ {s : List Nat}, (∀ u ∈ s, u < n) → val n s < (n + 1) ^ s.length
  | [], _ => by simp [val]
  | a :: s, h => by
    have h1 := val_lt (s := s) (fun u hu => h u (by simp [hu]))
    have h2 := h a (by simp)
    rw [val, List.length_cons, Nat.pow_succ]
    have h3 : (a + 1) * (n + 1) ^ s.length ≤ (n + 1) ^ s.length * (n + 1) := by
      rw [Nat.mul_comm ((n + 1) ^ s.length)]
      exact Nat.mul_le_mul_right _ (by omega)
    rw [Nat.succ_mul] at h3
    omega
theorem val_up {n : Nat} : ∀ {s t : List Nat}, s.length = t.length → (∀ u ∈ s, u < n) → ltS s t → val n s < val n t
  | [], [], _, _, h => by cases h
  | a :: s, [], h, _, _ => by simp at h
  | [], b :: t, h, _, _ => by simp at h
  | a :: s, b :: t, hl, hs, h => by
    simp only [List.length_cons] at hl
    have hl' : s.length = t.length := by omega
    rw [val, val, ← hl']
    rcases h with h | ⟨h, h4⟩
    · have h1 := val_lt (s := s) (fun u hu => hs u (by simp [hu]))
      have h3 : (a + 1) * (n + 1) ^ s.length ≤ b * (n + 1) ^ s.length := Nat.mul_le_mul_right _ h
      rw [Nat.succ_mul] at h3
      omega
    · subst h
      have := val_up hl' (fun u hu => hs u (by simp [hu])) h4
      omega
theorem asc_of {n : Nat} : ∀ {lo : Nat} {s : List Nat}, s.Pairwise (· < ·) → (∀ u ∈ s, lo ≤ u ∧ u < n) → Asc n lo s
  | _, [], _, _ => trivial
  | lo, a :: s, hp, h => by
    rw [List.pairwise_cons] at hp
    refine ⟨(h a (by simp)).1, (h a (by simp)).2, asc_of hp.2 fun u hu => ⟨?_, (h u (by simp [hu])).2⟩⟩
    exact hp.1 u hu
end Loc
