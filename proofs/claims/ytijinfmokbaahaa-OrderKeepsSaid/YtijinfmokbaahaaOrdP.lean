/- The order of texts, spans: plain. -/
import Derived.Laws.Strings
set_option linter.unusedVariables false
set_option linter.unusedSimpArgs false
namespace Ord
open Go
def lt (a b : ByteArray) : Bool := Op.bytesLess a.toList b.toList
def eq (a b : ByteArray) : Bool := a.toList == b.toList
def z : ByteArray := ⟨#[]⟩
def no (a : ByteArray) : Bool := a.toList.isEmpty
def ahd (k to : ByteArray) : Bool := no to || lt k to
def inn (f t k : ByteArray) : Bool := !lt k f && ahd k t
def emp (f t : ByteArray) : Bool := !ahd f t
def bot (a b : ByteArray) : ByteArray := if lt a b || eq a b then a else b
def low (a b : ByteArray) : ByteArray := if no a then b else if no b then a else bot a b
def top (a b : ByteArray) : ByteArray := if !lt a b then a else b
def hi (a b : ByteArray) : ByteArray := if no a || no b then z else top a b
theorem less_iff : ∀ x y : List UInt8, Op.bytesLess x y = true ↔ x < y
  | [], [] => by simp [Op.bytesLess]
  | _ :: _, [] => by simp [Op.bytesLess]
  | [], _ :: _ => by simp [Op.bytesLess]
  | a :: x, b :: y => by
    rw [Op.bytesLess, List.cons_lt_cons_iff, Bool.or_eq_true, Bool.and_eq_true, less_iff x y]
    simp
theorem lt_iff (a b : ByteArray) : lt a b = true ↔ a.toList < b.toList := less_iff _ _
theorem toList_eq {a b : ByteArray} (h : a.toList = b.toList) : a = b := by
  rw [Go.ByteArray.toList_eq, Go.ByteArray.toList_eq] at h
  cases a
  cases b
  simp at h
  rw [h]
theorem eq_iff (a b : ByteArray) : eq a b = true ↔ a = b := by
  unfold eq
  rw [beq_iff_eq]
  exact ⟨toList_eq, fun h => by rw [h]⟩
theorem lt_irr (a : ByteArray) : lt a a = false := by
  have := fun h => List.lt_irrefl _ ((lt_iff a a).1 h)
  simpa using this
theorem lt_trans {a b c : ByteArray} (h : lt a b = true) (h' : lt b c = true) : lt a c = true := (lt_iff _ _).2 (List.lt_trans ((lt_iff _ _).1 h) ((lt_iff _ _).1 h'))
theorem lt_tri {a b : ByteArray} (h : lt a b = false) (h' : lt b a = false) : a = b := by
  have h1 : ¬ a.toList < b.toList := fun hx => by rw [(lt_iff _ _).2 hx] at h; cases h
  have h2 : ¬ b.toList < a.toList := fun hx => by rw [(lt_iff _ _).2 hx] at h'; cases h'
  exact toList_eq (List.le_antisymm h2 h1)
theorem lt_of_le_lt {a b c : ByteArray} (h : lt b a = false) (h' : lt b c = true) : lt a c = true := by
  by_cases hx : lt a b = true
  · exact lt_trans hx h'
  · rw [lt_tri (by simpa using hx) h]
    exact h'
theorem lt_of_lt_le {a b c : ByteArray} (h : lt a b = true) (h' : lt c b = false) : lt a c = true := by
  by_cases hx : lt b c = true
  · exact lt_trans h hx
  · rw [← lt_tri (by simpa using hx) h']
    exact h
theorem le_trans {a b c : ByteArray} (h : lt b a = false) (h' : lt c b = false) : lt c a = false := by
  by_cases hx : lt c a = true
  · have := lt_of_lt_le hx h
    rw [h'] at this
    cases this
  · simpa using hx
theorem lt_asymm {a b : ByteArray} (h : lt a b = true) : lt b a = false := by
  by_cases hx : lt b a = true
  · have := lt_trans h hx
    rw [lt_irr] at this
    cases this
  · simpa using hx
theorem z_le (a : ByteArray) : lt a z = false := by
  have e : z.toList = [] := Go.ByteArray.toList_eq _
  unfold lt
  rw [e]
  cases a.toList <;> rfl
theorem no_iff {a : ByteArray} : no a = true ↔ a = z := by
  unfold no
  rw [List.isEmpty_iff]
  exact ⟨fun h => toList_eq (h.trans (Go.ByteArray.toList_eq z).symm), fun h => by rw [h]; exact Go.ByteArray.toList_eq z⟩
theorem eq_false {a b : ByteArray} : eq a b = false ↔ a ≠ b := by
  rw [← Bool.not_eq_true, eq_iff]
end Ord
