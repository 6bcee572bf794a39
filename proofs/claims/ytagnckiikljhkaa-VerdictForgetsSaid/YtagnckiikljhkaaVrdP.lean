/- The verdict in plain words: what is remembered of each key, and who comes too late. Nothing about the program. -/
import Derived.Test.YtagnckiikljhkaaBase
set_option linter.unusedVariables false
set_option linter.unusedSimpArgs false
namespace Vrd
instance bytesEq : DecidableEq ByteArray := fun a b => decidable_of_iff (a.data = b.data) ⟨fun h => by cases a; cases b; simp at h; rw [h], fun h => by rw [h]⟩
instance memBytes (k : ByteArray) (l : List ByteArray) : Decidable (k ∈ l) := decidable_of_iff ((l.any fun x => decide (x = k)) = true) (by simp)
/-- what is remembered: the newest stamp of each key -/
abbrev Mem := ByteArray → Option Nat
def none_ : Mem := fun _ => none
def note (f : Mem) (stamp : Nat) (keys : List ByteArray) : Mem := fun k => if k ∈ keys then some stamp else f k
/-- does a key come too late? -/
def lateK (f : Mem) (start : Nat) (k : ByteArray) : Bool := match f k with
  | some s => decide (start < s)
  | none => false
/-- what Ask answers of keys, from what it holds already -/
def askG (lt : ByteArray → ByteArray → Bool) (f : Mem) (start : Nat) : List ByteArray → ByteArray × Nat × Bool → ByteArray × Nat × Bool
  | [], r => r
  | k :: l, r => askG lt f start l (if lateK f start k && (!r.2.2 || lt k r.1) then (k, (f k).getD 0, true) else r)
def ask (lt : ByteArray → ByteArray → Bool) (f : Mem) (start : Nat) (keys : List ByteArray) : ByteArray × Nat × Bool := askG lt f start keys (ByteArray.mk #[], 0, false)
theorem askG_late (lt f start) : ∀ (l : List ByteArray) (r : ByteArray × Nat × Bool), (askG lt f start l r).2.2 = (r.2.2 || l.any (lateK f start))
  | [], r => by simp [askG]
  | k :: l, r => by
    rw [askG, askG_late lt f start l, List.any_cons]
    cases h1 : lateK f start k <;> cases h2 : r.2.2 <;> simp [h2]
    cases lt k r.1 <;> simp [h2]
theorem ask_late (lt f start keys) : (ask lt f start keys).2.2 = keys.any (lateK f start) := by
  unfold ask
  rw [askG_late]
  rfl
theorem askG_step {lt f start} {l : List ByteArray} {j : Nat} (h : j < l.length) (r) : askG lt f start (l.drop j) r = askG lt f start (l.drop (j + 1)) (if lateK f start l[j] && (!r.2.2 || lt l[j] r.1) then (l[j], (f l[j]).getD 0, true) else r) := by
  rw [List.drop_eq_getElem_cons h, askG]
/-- Ask looks at the stamps above its start alone. -/
theorem askG_congr {lt} {f f' : Mem} {start : Nat} (h : ∀ k s, start < s → (f k = some s ↔ f' k = some s)) : ∀ (l : List ByteArray) (r), askG lt f start l r = askG lt f' start l r
  | [], _ => rfl
  | k :: l, r => by
    rw [askG, askG]
    have e1 : lateK f start k = lateK f' start k := by
      unfold lateK
      cases h1 : f k with
      | none =>
        cases h2 : f' k with
        | none => rfl
        | some s =>
          by_cases hs : start < s
          · have := (h k s hs).2 h2
            rw [h1] at this
            cases this
          · simp only [decide_eq_false hs]
      | some s =>
        by_cases hs : start < s
        · rw [(h k s hs).1 h1]
        · cases h2 : f' k with
          | none => simp only [decide_eq_false hs]
          | some s' =>
            by_cases hs' : start < s'
            · have := (h k s' hs').2 h2
              rw [h1] at this
              injection this with this
              omega
            · simp only [decide_eq_false hs, decide_eq_false hs']
    by_cases hl : lateK f' start k = true
    · have e2 : f k = f' k := by
        rw [← e1] at hl
        unfold lateK at hl
        cases h1 : f k with
        | none => rw [h1] at hl; cases hl
        | some s =>
          rw [h1] at hl
          exact ((h k s (by simpa using hl)).1 h1).symm
      rw [e1, e2]
      exact askG_congr h l _
    · rw [e1]
      have : lateK f' start k = false := by simpa using hl
      simp only [this, Bool.false_and, Bool.false_eq_true, if_false]
      exact askG_congr h l _
theorem ask_congr {lt} {f f' : Mem} {start : Nat} (h : ∀ k s, start < s → (f k = some s ↔ f' k = some s)) (keys) : ask lt f start keys = ask lt f' start keys := askG_congr h keys _
/-- What is remembered when the j-th commit has the stamp j + 1. -/
def memOf : List (List ByteArray) → Nat → Mem
  | [], _ => none_
  | ks :: L, i => fun k => match memOf L (i + 1) k with
    | some s => some s
    | none => if k ∈ ks then some (i + 1) else none
theorem memOf_snoc : ∀ (L : List (List ByteArray)) (ks : List ByteArray) (i : Nat), memOf (L ++ [ks]) i = note (memOf L i) (i + L.length + 1) ks
  | [], ks, i => by
    funext k
    simp only [List.nil_append, memOf, note, none_, List.length_nil, Nat.add_zero]
  | a :: L, ks, i => by
    funext k
    simp only [List.cons_append, memOf, memOf_snoc L ks (i + 1), note, List.length_cons]
    rw [show i + 1 + L.length + 1 = i + (L.length + 1) + 1 from by omega]
    by_cases h : k ∈ ks
    · rw [if_pos h, if_pos h]
    · rw [if_neg h, if_neg h]
theorem memOf_late : ∀ (L : List (List ByteArray)) (i start : Nat) (k : ByteArray), lateK (memOf L i) start k = true ↔ ∃ j, ∃ h : j < L.length, start < i + j + 1 ∧ k ∈ L[j]
  | [], i, start, k => by simp [memOf, lateK, none_]
  | a :: L, i, start, k => by
    have ih := memOf_late L (i + 1) start k
    unfold lateK at ih ⊢
    simp only [memOf]
    cases hm : memOf L (i + 1) k with
    | some s =>
      rw [hm] at ih
      simp only [decide_eq_true_eq] at ih ⊢
      rw [ih]
      constructor
      · rintro ⟨j, h, h1, h2⟩
        exact ⟨j + 1, by simpa using h, by omega, by simpa using h2⟩
      · rintro ⟨j, h, h1, h2⟩
        rcases j with _ | j
        · have hs := memOf_ge L (i + 1) k s hm
          exact ih.1 (by omega)
        · exact ⟨j, by simpa using h, by omega, by simpa using h2⟩
    | none =>
      rw [hm] at ih
      simp only [Bool.false_eq_true, false_iff, not_exists, not_and] at ih
      by_cases hk : k ∈ a
      · simp only [if_pos hk, decide_eq_true_eq]
        constructor
        · intro h
          exact ⟨0, Nat.succ_pos _, by omega, hk⟩
        · rintro ⟨j, h, h1, h2⟩
          rcases j with _ | j
          · omega
          · have hj : j < L.length := by simpa using h
            have h2' : k ∈ L[j] := by simpa using h2
            exact absurd h2' (ih j hj (by omega))
      · simp only [if_neg hk, Bool.false_eq_true, false_iff, not_exists, not_and]
        intro j h h1 h2
        rcases j with _ | j
        · exact hk (by simpa using h2)
        · exact ih j (by simpa using h) (by omega) (by simpa using h2)
where
  memOf_ge : ∀ (L : List (List ByteArray)) (i : Nat) (k : ByteArray) (s : Nat), memOf L i k = some s → i < s
  | [], _, _, _, h => by cases h
  | a :: L, i, k, s, h => by
    simp only [memOf] at h
    cases hm : memOf L (i + 1) k with
    | some s' =>
      rw [hm] at h
      injection h with h
      subst h
      have := memOf_ge L (i + 1) k _ hm
      omega
    | none =>
      rw [hm] at h
      by_cases hk : k ∈ a
      · simp only [if_pos hk] at h
        injection h with h
        omega
      · simp only [if_neg hk] at h
        cases h
end Vrd
