/- Join. -/
import Derived.Test.YtmfilmkdaokbbaaCodJ
set_option linter.unusedVariables false
set_option linter.unusedSimpArgs false
set_option maxRecDepth 40000
namespace Cib
open Go Go.RowKit Go.Proofs
/-- Bytes, and no error. -/
def NewE (bs : List UInt8) (w : World) (e : Ending) (w' : World) : Prop :=
  ∃ A n c, e = .returned (.tuple #[.slice A n c, .int .i64 0]) ∧ bs.length = n ∧ w'.ownsRow w.heap.size 5 1 (.slice A n c) n (bs.map bv) ∧ Below w.heap.size w w'
theorem Cod.len0_of {L : List RowB} (h : 0 < L.length) (hl : ∀ r ∈ L, r.bs.length = r.n) : Cod.len0 (bss L) = L[0].n := by
  rw [Cod.len0_eq (by simpa [bss] using h)]
  have := hl _ (List.getElem_mem h)
  simpa [bss] using this
theorem Cod.take_step (X r : List UInt8) (size : Nat) : (X ++ r).take size = X.take size ++ r.take (size - (X.take size).length) := by
  rw [List.take_append, List.length_take]
  congr 1
  by_cases h : size ≤ X.length
  · rw [show size - X.length = 0 from by omega, show size - min size X.length = 0 from by omega]
  · rw [Nat.min_eq_right (by omega)]
end Cib
