/- Order: plain laws of spans. -/
import Derived.Test.YtijinfmokbaahaaOrdF
set_option linter.unusedVariables false
set_option linter.unusedSimpArgs false
namespace Ord
open Go
theorem le_iff {a b : ByteArray} : lt a b = false ↔ lt b a = true ∨ b = a := by
  constructor
  · intro h
    by_cases hx : lt b a = true
    · exact .inl hx
    · exact .inr (lt_tri (by simpa using hx) h)
  · rintro (h | rfl)
    · exact lt_asymm h
    · exact lt_irr _
theorem lt_top (k a b : ByteArray) : lt k (top a b) = (lt k a || lt k b) := by
  unfold top
  by_cases h : lt a b = true
  · rw [h]
    simp only [Bool.not_true, Bool.false_eq_true, if_false]
    by_cases h1 : lt k a = true
    · rw [h1, lt_trans h1 h]
      rfl
    · rw [show lt k a = false by simpa using h1, Bool.false_or]
  · have h' : lt a b = false := by simpa using h
    rw [h']
    simp only [Bool.not_false, if_true]
    by_cases h1 : lt k b = true
    · rw [h1, lt_of_lt_le h1 h']
      rfl
    · rw [show lt k b = false by simpa using h1, Bool.or_false]
theorem lt_bot (k a b : ByteArray) : lt k (bot a b) = (lt k a && lt k b) := by
  unfold bot
  by_cases h : lt a b = true ∨ eq a b = true
  · rw [if_pos (by simpa using h)]
    rcases h with h | h
    · by_cases h1 : lt k a = true
      · rw [h1, lt_trans h1 h]
        rfl
      · rw [show lt k a = false by simpa using h1, Bool.false_and]
    · rw [(eq_iff a b).1 h, Bool.and_self]
  · rw [if_neg (by simpa using h)]
    have h' : lt b a = true := by
      by_cases h2 : lt b a = true
      · exact h2
      · exact absurd ((eq_iff a b).2 (lt_tri (by simpa using fun x => h (.inl x)) (by simpa using h2))) (fun x => h (.inr x))
    by_cases h1 : lt k b = true
    · rw [h1, lt_trans h1 h']
      rfl
    · rw [show lt k b = false by simpa using h1, Bool.and_false]
theorem no_bot {a b : ByteArray} (ha : no a = false) (hb : no b = false) : no (bot a b) = false := by
  unfold bot
  split
  · exact ha
  · exact hb
theorem ahd_low (k a b : ByteArray) : ahd k (low a b) = (ahd k a && ahd k b) := by
  unfold low
  by_cases ha : no a = true
  · rw [if_pos ha]
    unfold ahd
    rw [ha]
    simp
  · rw [if_neg ha]
    have ha' : no a = false := by simpa using ha
    by_cases hb : no b = true
    · rw [if_pos hb]
      unfold ahd
      rw [hb]
      simp
    · rw [if_neg hb]
      have hb' : no b = false := by simpa using hb
      unfold ahd
      rw [no_bot ha' hb', ha', hb', lt_bot]
      simp
theorem inn_meet (f t f' t' k : ByteArray) : inn (top f f') (low t t') k = (inn f t k && inn f' t' k) := by
  unfold inn
  rw [lt_top, ahd_low]
  cases lt k f <;> cases lt k f' <;> cases ahd k t <;> cases ahd k t' <;> rfl
theorem inn_from (f t : ByteArray) : inn f t f = !emp f t := by
  unfold inn emp
  rw [lt_irr]
  simp
theorem inn_emp {f t k : ByteArray} (h : emp f t = true) : inn f t k = false := by
  by_cases hx : inn f t k = true
  · unfold inn at hx
    rw [Bool.and_eq_true] at hx
    obtain ⟨h1, h2⟩ := hx
    have h1' : lt k f = false := by simpa using h1
    unfold emp ahd at h
    unfold ahd at h2
    cases hn : no t
    · rw [hn] at h h2
      have h3 : lt k t = true := by simpa using h2
      have h4 := lt_of_le_lt h1' h3
      rw [h4] at h
      simp at h
    · rw [hn] at h
      simp at h
  · simpa using hx
theorem top_comm (a b : ByteArray) : top a b = top b a := by
  unfold top
  cases h : lt a b <;> cases h' : lt b a
  · simp only [Bool.not_false, if_true]
    exact lt_tri h h'
  · rfl
  · rfl
  · rw [lt_asymm h] at h'
    cases h'
theorem bot_comm (a b : ByteArray) : bot a b = bot b a := by
  unfold bot
  cases h : lt a b <;> cases h' : lt b a
  · have := lt_tri h h'
    subst this
    rfl
  · have : eq a b = false := eq_false.2 fun e => by subst e; rw [h] at h'; cases h'
    simp [this]
  · have : eq b a = false := eq_false.2 fun e => by subst e; rw [h] at h'; cases h'
    simp [this]
  · rw [lt_asymm h] at h'
    cases h'
theorem low_comm (a b : ByteArray) : low a b = low b a := by
  unfold low
  cases h : no a <;> cases h' : no b
  · simp [bot_comm]
  · simp
  · simp
  · simp [no_iff.1 h, no_iff.1 h']
theorem emp_ref (f t : ByteArray) : (!no t && (lt t f || eq t f)) = emp f t := by
  unfold emp ahd
  cases no t
  · simp only [Bool.not_false, Bool.true_and, Bool.false_or]
    cases h : lt f t
    · rcases le_iff.1 h with h | h
      · simp [h]
      · simp [(eq_iff t f).2 h]
    · rw [lt_asymm h, Bool.false_or]
      exact eq_false.2 fun e => by subst e; rw [lt_irr] at h; cases h
  · rfl
theorem app_toList (k : ByteArray) : (k ++ ⟨#[0]⟩ : ByteArray).toList = k.toList ++ [0] := by
  rw [Go.ByteArray.toList_eq, Go.ByteArray.toList_eq]
  simp
theorem next_above : ∀ k : List UInt8, Op.bytesLess (k ++ [0]) k = false
  | [] => rfl
  | a :: k => by
    show (decide (a < a) || (a == a && Op.bytesLess (k ++ [0]) k)) = false
    rw [next_above k]
    simp
theorem next_least : ∀ k o : List UInt8, Op.bytesLess o (k ++ [0]) = true → Op.bytesLess o k = true ∨ o = k
  | [], [], _ => .inr rfl
  | [], x :: o, h => by
    have h' : (decide (x < 0) || (x == 0 && Op.bytesLess o [])) = true := h
    cases o <;> simp [Op.bytesLess] at h'
  | a :: k, [], _ => .inl rfl
  | a :: k, x :: o, h => by
    have h' : (decide (x < a) || (x == a && Op.bytesLess o (k ++ [0]))) = true := h
    rw [Bool.or_eq_true, Bool.and_eq_true, decide_eq_true_eq, beq_iff_eq] at h'
    have e : Op.bytesLess (x :: o) (a :: k) = (decide (x < a) || (x == a && Op.bytesLess o k)) := rfl
    rcases h' with h' | ⟨rfl, h'⟩
    · left
      rw [e, decide_eq_true h', Bool.true_or]
    · rcases next_least k o h' with h2 | rfl
      · left
        rw [e, h2]
        simp
      · exact .inr rfl
/-- Prefix: what stands in it begins so. -/
def up (p : ByteArray) : ByteArray := ⟨(upL p.data.toList).toArray⟩
theorem up_toList (p : ByteArray) : (up p).toList = upL p.data.toList := by
  rw [Go.ByteArray.toList_eq]
  simp [up]
theorem inn_up (p k : ByteArray) : inn p (up p) k = p.data.toList.isPrefixOf k.data.toList := by
  rw [← between]
  unfold inn ahd no lt
  rw [up_toList, Go.ByteArray.toList_eq, Go.ByteArray.toList_eq]
theorem begins_eq (p k : ByteArray) : (decide (p.size ≤ k.size) && (k.extract 0 p.size).toList == p.toList) = p.data.toList.isPrefixOf k.data.toList := by
  rw [Go.ByteArray.toList_eq, Go.ByteArray.toList_eq, Bool.eq_iff_iff, Bool.and_eq_true, beq_iff_eq, decide_eq_true_eq, List.isPrefixOf_iff_prefix]
  have e : (k.extract 0 p.size).data.toList = k.data.toList.take p.size := by simp
  rw [e]
  constructor
  · rintro ⟨_, h⟩
    rw [← h]
    exact List.take_prefix _ _
  · intro h
    have hl : p.data.toList.length = p.size := by simp
    have := h.length_le
    refine ⟨by simpa using this, ?_⟩
    rw [List.prefix_iff_eq_take.1 h]
    simp
theorem inn_up_app (p k : ByteArray) : inn p (up p) (p ++ k) = true := by
  rw [inn_up, List.isPrefixOf_iff_prefix]
  simp
theorem emp_up (p : ByteArray) : emp p (up p) = false := by
  have h := inn_from p (up p)
  rw [inn_up, show p.data.toList.isPrefixOf p.data.toList = true from List.isPrefixOf_iff_prefix.2 (List.prefix_refl _)] at h
  simpa using h.symm
end Ord
