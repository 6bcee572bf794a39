/- Products of rows: the field's and the document's. -/
import Derived.Test.YtnicfpkadiamaaaFldS
import Derived.Test.YtnicfpkadiamaaaFldE
set_option linter.unusedVariables false
set_option linter.unusedSimpArgs false
set_option maxRecDepth 20000
namespace Cib
open Go Go.RowKit Go.Proofs

/-- The sum of the first k products. -/
def dotN (a b : List UInt8) : Nat → Nat
  | 0 => 0
  | k + 1 => dotN a b k ^^^ Fld.gmul (a.getD k 0).toNat (b.getD k 0).toNat
theorem dotN_lt (a b : List UInt8) : ∀ k, dotN a b k < 256
  | 0 => by show (0 : Nat) < 256; decide
  | k + 1 => Fld.xor_lt (dotN_lt a b k) (Fld.gmul_lt (UInt8.toNat_lt _))
theorem dotN_next {a b : List UInt8} {k : Nat} (ha : k < a.length) (hb : k < b.length) : dotN a b (k + 1) = dotN a b k ^^^ Fld.gmul a[k].toNat b[k].toNat := by
  simp [dotN, ha, hb]
theorem Aft.drewN {w w1 : World} {g : Nat} (h : Aft g w w1) (n : Nat) : Aft g w (w1.drewN n) := ⟨h.full.drewN n, h.os, h.tape, h.output, h.size, h.oth⟩
end Cib
