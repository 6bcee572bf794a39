/- The document's Split, Join. -/
import Derived.Test.YtmfilmkdaokbbaaCodH
set_option linter.unusedVariables false
set_option linter.unusedSimpArgs false
set_option maxRecDepth 40000
namespace Cib
open Go Go.RowKit Go.Proofs
/-- A row of noughts, of which the first q are a text's. -/
theorem Cod.pad_set (t : List UInt8) (W q : Nat) (h : q < t.length) (hW : t.length ≤ W) : (Cod.pad (t.take q) W).set q t[q] = Cod.pad (t.take (q + 1)) W := by
  unfold Cod.pad
  rw [List.set_append_right _ _ (by rw [List.length_take]; omega), List.length_take, Nat.min_eq_left (by omega), Nat.sub_self, show W - q = (W - (q + 1)) + 1 from by omega, List.replicate_succ, List.set_cons_zero, List.take_succ_eq_append_getElem h, List.append_assoc, List.length_append, List.length_take, Nat.min_eq_left (by omega)]
  rfl
end Cib
