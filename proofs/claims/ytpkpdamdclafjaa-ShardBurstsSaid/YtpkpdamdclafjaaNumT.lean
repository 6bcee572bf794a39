/- What package num's texts compute. -/
import Derived.Test.YtpkpdamdclafjaaNumG
set_option linter.unusedVariables false
set_option linter.unusedSimpArgs false
set_option maxRecDepth 20000
namespace Go.Proofs.Ytpkpdamdclafjaa
open Go.RowKit Cib

theorem take_snocB (ss : List UInt8) (k : Nat) (h : k < ss.length) : ss.take (k + 1) = ss.take k ++ [ss[k]] := List.take_succ_eq_append_getElem h

end Go.Proofs.Ytpkpdamdclafjaa
