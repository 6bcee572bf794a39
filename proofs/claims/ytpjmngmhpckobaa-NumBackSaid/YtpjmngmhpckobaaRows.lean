/-
  No cell of these rows narrows 'for every input' (looked for: loops, veiled, ifaces, maps, wideKeys, modest, calm, conditions, laid).
  DERIVED. THE GIVEN ROWS OF THIS SEAT. 5 by the template 'for every input the law returns true; each argument reads behind the call as it read before'; 0 by the template 'total and deterministic' (their statements: YtpjmngmhpckobaaTotals.lean).
  GIVEN WITH THE SEED: the statements are not yours to turn. If you find one false, say at which input.
  Laid BY PROGRAM, IN A SANDBOX (cutbox-rows.mjs): the forced cells as the released guide's own fill.sh prints them over the translation 4f44b1776e1f520a… (all of the seat's roots in one cut). By AI agents, Wed Nov 11 2026. No macro, syntax, notation, axiom, sorry.
-/
import Derived.Test.YtpjmngmhpckobaaChecked
import GoSem.Claim
import GoSem.ClaimJoined
import GoSem.ClaimMapViews
import Derived.JoinedTies
import Derived.KernelRfl
namespace Go.Proofs.Ytpjmngmhpckobaa
/- THE CELL 'sum', in the pinned program and in every row, IS THE sha256 OF THE DUMP (.gsa) THAT YtpjmngmhpckobaaProg.lean LOADS. Nothing in Lean hashes anything: it is a label: what it is worth is what the hold of that sum in a sandbox is worth. -/
noncomputable def Try.pinned : Pinned := { name := "ytpjmngmhpckobaa", sum := "4f44b1776e1f520af4a5cfef66604c5c6ce168b83b62ccbafccad6753afda598", checked := Try.checked }
namespace Rows
def none {H : Type} : Left H := { results := [], args := [] }

/-- 'ciboriumlaw01.NumVars': WHATEVER THE INPUT: true; the input reads as it did. -/
def numVarsSpec : ChangeSpec := { name := "numVars", fn := fun _ => fun
  | [d1, d2, d3] => { results := [.lit (.bool true)], args := [d1, d2, d3] }
  | _ => none }
def numVarsRow : OpenClaim := { program := "ytpjmngmhpckobaa", sum := "4f44b1776e1f520af4a5cfef66604c5c6ce168b83b62ccbafccad6753afda598", func := "ciborium/ciboriumlaw01.NumVars", spec := "numVars", apart := false }
def NumVarsSaid : Prop := numVarsRow.holds Try.pinned (OpenSpec.ofChange numVarsSpec)

/-- ITS FALSE NEIGHBOUR: 'it returns false'. Refute it at one input. -/
def numVarsWrong : ChangeSpec := { name := "numVars", fn := fun _ => fun
  | [d1, d2, d3] => { results := [.lit (.bool false)], args := [d1, d2, d3] }
  | _ => none }
def NumVarsWrongFalsely : Prop := numVarsRow.holds Try.pinned (OpenSpec.ofChange numVarsWrong)

/-- 'ciboriumlaw01.NumFixed': WHATEVER THE INPUT: true; the input reads as it did. -/
def numFixedSpec : ChangeSpec := { name := "numFixed", fn := fun _ => fun
  | [d1, d2, d3, d4] => { results := [.lit (.bool true)], args := [d1, d2, d3, d4] }
  | _ => none }
def numFixedRow : OpenClaim := { program := "ytpjmngmhpckobaa", sum := "4f44b1776e1f520af4a5cfef66604c5c6ce168b83b62ccbafccad6753afda598", func := "ciborium/ciboriumlaw01.NumFixed", spec := "numFixed", apart := false }
def NumFixedSaid : Prop := numFixedRow.holds Try.pinned (OpenSpec.ofChange numFixedSpec)

/-- ITS FALSE NEIGHBOUR: 'it returns false'. Refute it at one input. -/
def numFixedWrong : ChangeSpec := { name := "numFixed", fn := fun _ => fun
  | [d1, d2, d3, d4] => { results := [.lit (.bool false)], args := [d1, d2, d3, d4] }
  | _ => none }
def NumFixedWrongFalsely : Prop := numFixedRow.holds Try.pinned (OpenSpec.ofChange numFixedWrong)

/-- 'ciboriumlaw01.NumTexts': WHATEVER THE INPUT: true; the input reads as it did. -/
def numTextsSpec : ChangeSpec := { name := "numTexts", fn := fun _ => fun
  | [d1, d2, d3, d4] => { results := [.lit (.bool true)], args := [d1, d2, d3, d4] }
  | _ => none }
def numTextsRow : OpenClaim := { program := "ytpjmngmhpckobaa", sum := "4f44b1776e1f520af4a5cfef66604c5c6ce168b83b62ccbafccad6753afda598", func := "ciborium/ciboriumlaw01.NumTexts", spec := "numTexts", apart := false }
def NumTextsSaid : Prop := numTextsRow.holds Try.pinned (OpenSpec.ofChange numTextsSpec)

/-- ITS FALSE NEIGHBOUR: 'it returns false'. Refute it at one input. -/
def numTextsWrong : ChangeSpec := { name := "numTexts", fn := fun _ => fun
  | [d1, d2, d3, d4] => { results := [.lit (.bool false)], args := [d1, d2, d3, d4] }
  | _ => none }
def NumTextsWrongFalsely : Prop := numTextsRow.holds Try.pinned (OpenSpec.ofChange numTextsWrong)

/-- 'ciboriumlaw01.NumAgain': WHATEVER THE INPUT: true; the input reads as it did. -/
def numAgainSpec : ChangeSpec := { name := "numAgain", fn := fun _ => fun
  | [d1, d2] => { results := [.lit (.bool true)], args := [d1, d2] }
  | _ => none }
def numAgainRow : OpenClaim := { program := "ytpjmngmhpckobaa", sum := "4f44b1776e1f520af4a5cfef66604c5c6ce168b83b62ccbafccad6753afda598", func := "ciborium/ciboriumlaw01.NumAgain", spec := "numAgain", apart := false }
def NumAgainSaid : Prop := numAgainRow.holds Try.pinned (OpenSpec.ofChange numAgainSpec)

/-- ITS FALSE NEIGHBOUR: 'it returns false'. Refute it at one input. -/
def numAgainWrong : ChangeSpec := { name := "numAgain", fn := fun _ => fun
  | [d1, d2] => { results := [.lit (.bool false)], args := [d1, d2] }
  | _ => none }
def NumAgainWrongFalsely : Prop := numAgainRow.holds Try.pinned (OpenSpec.ofChange numAgainWrong)

/-- 'ciboriumlaw01.NumBack': WHATEVER THE INPUT: true; the input reads as it did. -/
def numBackSpec : ChangeSpec := { name := "numBack", fn := fun _ => fun
  | [d] => { results := [.lit (.bool true)], args := [d] }
  | _ => none }
def numBackRow : OpenClaim := { program := "ytpjmngmhpckobaa", sum := "4f44b1776e1f520af4a5cfef66604c5c6ce168b83b62ccbafccad6753afda598", func := "ciborium/ciboriumlaw01.NumBack", spec := "numBack", apart := false }
def NumBackSaid : Prop := numBackRow.holds Try.pinned (OpenSpec.ofChange numBackSpec)

/-- ITS FALSE NEIGHBOUR: 'it returns false'. Refute it at one input. -/
def numBackWrong : ChangeSpec := { name := "numBack", fn := fun _ => fun
  | [d] => { results := [.lit (.bool false)], args := [d] }
  | _ => none }
def NumBackWrongFalsely : Prop := numBackRow.holds Try.pinned (OpenSpec.ofChange numBackWrong)

/- THE SECOND FORM. 'bulk': how many values and letters a reading holds, each counted each time it is reached (what is shared counts as often as it is met; a slice's spare places count too). A statement '..UptoSaid' is the law's where the arguments, and the package variables that the reading takes, are together of bulk at most 1048576: NARROWER than '..Said'. Prove '..Said' where nothing that the law and all that it calls make is longer than what came in: it says more and counts as full. Else prove '..UptoSaid'. A law counts once. -/
mutual
def uptoBulk {H : Type} : DataW H → Nat
  | .lit (.string bytes) => bytes.length + 1
  | .lit _ => 1
  | .nil => 1
  | .ptr d => uptoBulk d + 1
  | .slice elems spare => uptoBulkAll elems + uptoBulkAll spare + 1
  | .agg parts => uptoBulkAll parts + 1
  | .iface _ d => uptoBulk d + 1
  | .map entries => uptoBulkEntries entries + 1
  | .held _ => 1
def uptoBulkAll {H : Type} : List (DataW H) → Nat
  | [] => 0
  | d :: r => uptoBulk d + uptoBulkAll r
def uptoBulkEntries {H : Type} : List (Lit × DataW H) → Nat
  | [] => 0
  | x :: r => uptoBulkEntry x + uptoBulkEntries r
def uptoBulkEntry {H : Type} : Lit × DataW H → Nat
  | (.string bytes, d) => bytes.length + uptoBulk d + 1
  | (_, d) => uptoBulk d + 1
 end
def uptoSmall : (H : Type) → List (DataW H) → Bool := fun _ ds => decide (uptoBulkAll ds ≤ 1048576)
def OpenSpec.upto (s : _root_.Go.ChangeSpec) : _root_.Go.OpenSpec := { _root_.Go.OpenSpec.ofChange s with cond := some uptoSmall }

/-- 'ciboriumlaw01.NumVars', WHERE WHAT IT READS IS OF BULK AT MOST 1048576: true; the input reads as it did. -/
def numVarsUptoRow : OpenClaim := { program := "ytpjmngmhpckobaa", sum := "4f44b1776e1f520af4a5cfef66604c5c6ce168b83b62ccbafccad6753afda598", func := "ciborium/ciboriumlaw01.NumVars", spec := "numVars", apart := false, narrowed := true }
def NumVarsUptoSaid : Prop := numVarsUptoRow.holds Try.pinned (OpenSpec.upto numVarsSpec)

/-- 'ciboriumlaw01.NumFixed', WHERE WHAT IT READS IS OF BULK AT MOST 1048576: true; the input reads as it did. -/
def numFixedUptoRow : OpenClaim := { program := "ytpjmngmhpckobaa", sum := "4f44b1776e1f520af4a5cfef66604c5c6ce168b83b62ccbafccad6753afda598", func := "ciborium/ciboriumlaw01.NumFixed", spec := "numFixed", apart := false, narrowed := true }
def NumFixedUptoSaid : Prop := numFixedUptoRow.holds Try.pinned (OpenSpec.upto numFixedSpec)

/-- 'ciboriumlaw01.NumTexts', WHERE WHAT IT READS IS OF BULK AT MOST 1048576: true; the input reads as it did. -/
def numTextsUptoRow : OpenClaim := { program := "ytpjmngmhpckobaa", sum := "4f44b1776e1f520af4a5cfef66604c5c6ce168b83b62ccbafccad6753afda598", func := "ciborium/ciboriumlaw01.NumTexts", spec := "numTexts", apart := false, narrowed := true }
def NumTextsUptoSaid : Prop := numTextsUptoRow.holds Try.pinned (OpenSpec.upto numTextsSpec)

/-- 'ciboriumlaw01.NumAgain', WHERE WHAT IT READS IS OF BULK AT MOST 1048576: true; the input reads as it did. -/
def numAgainUptoRow : OpenClaim := { program := "ytpjmngmhpckobaa", sum := "4f44b1776e1f520af4a5cfef66604c5c6ce168b83b62ccbafccad6753afda598", func := "ciborium/ciboriumlaw01.NumAgain", spec := "numAgain", apart := false, narrowed := true }
def NumAgainUptoSaid : Prop := numAgainUptoRow.holds Try.pinned (OpenSpec.upto numAgainSpec)

/-- 'ciboriumlaw01.NumBack', WHERE WHAT IT READS IS OF BULK AT MOST 1048576: true; the input reads as it did. -/
def numBackUptoRow : OpenClaim := { program := "ytpjmngmhpckobaa", sum := "4f44b1776e1f520af4a5cfef66604c5c6ce168b83b62ccbafccad6753afda598", func := "ciborium/ciboriumlaw01.NumBack", spec := "numBack", apart := false, narrowed := true }
def NumBackUptoSaid : Prop := numBackUptoRow.holds Try.pinned (OpenSpec.upto numBackSpec)

end Rows
end Go.Proofs.Ytpjmngmhpckobaa
