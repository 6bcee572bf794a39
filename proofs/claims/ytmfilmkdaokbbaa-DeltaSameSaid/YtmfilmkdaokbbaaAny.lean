/- Rows, new ones or none, and an error value. -/
import Derived.Test.YtmfilmkdaokbbaaRowsN
import Derived.Test.YtmfilmkdaokbbaaCodS
set_option linter.unusedVariables false
set_option linter.unusedSimpArgs false
set_option maxRecDepth 40000
namespace Cib
open Go Go.RowKit Go.Proofs
/-- Rows, new ones or none, and an error value. -/
def AnyR (D : List (List UInt8)) (err : Int) (w : World) (e : Ending) (w' : World) : Prop :=
  ∃ A n c L, e = .returned (.tuple #[.slice A n c, .int .i64 err]) ∧ bss L = D ∧ L.length = n ∧ n ≤ c ∧ c ≤ maxLen ∧ Rd w' w'.heap.size A (L.map RowB.v) ∧ RowsAt w' w'.heap.size L ∧ Below w.heap.size w w'
theorem NewR.any {D : List (List UInt8)} {err : Int} {w w' : World} {e : Ending} (h : NewR D err w e w') : AnyR D err w e w' := by
  obtain ⟨A, n, c, L, h1, h2, h3, h4, h5, h6⟩ := h
  exact ⟨A, n, c, L, h1, h2, h3, (own_cap h4).1, (own_cap h4).2, Rd.of_own h4, h5.at, h6⟩
theorem AnyR.none {err : Int} {w w' : World} {e : Ending} (h : e = .returned (.tuple #[.slice none 0 0, .int .i64 err])) (hb : Below w.heap.size w w') : AnyR [] err w e w' :=
  ⟨_, 0, 0, [], h, rfl, rfl, Nat.le_refl _, Nat.zero_le _, Rd.nil _ _ _, RowsAt.nil, hb⟩
end Cib
