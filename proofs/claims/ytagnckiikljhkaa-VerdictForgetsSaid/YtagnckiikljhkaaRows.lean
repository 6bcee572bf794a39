/-
  No cell of these rows narrows 'for every input' (looked for: loops, veiled, ifaces, maps, wideKeys, modest, calm, conditions, laid).
  DERIVED. THE GIVEN ROWS OF THIS SEAT. 3 by the template 'for every input the law returns true; each argument reads behind the call as it read before'; 0 by the template 'total and deterministic' (their statements: YtagnckiikljhkaaTotals.lean).
  GIVEN WITH THE SEED: the statements are not yours to turn. If you find one false, say at which input.
  Laid BY PROGRAM, IN A SANDBOX (cutbox-rows.mjs): the forced cells as the released guide's own fill.sh prints them over the translation 9e15dde9e60c14e4… (all of the seat's roots in one cut). By AI agents, Wed Nov 11 2026. No macro, syntax, notation, axiom, sorry.
-/
import Derived.Test.YtagnckiikljhkaaChecked
import GoSem.Claim
import GoSem.ClaimJoined
import GoSem.ClaimMapViews
import Derived.JoinedTies
import Derived.KernelRfl
namespace Go.Proofs.Ytagnckiikljhkaa
/- THE CELL 'sum', in the pinned program and in every row, IS THE sha256 OF THE DUMP (.gsa) THAT YtagnckiikljhkaaProg.lean LOADS. Nothing in Lean hashes anything: it is a label: what it is worth is what the hold of that sum in a sandbox is worth. -/
noncomputable def Try.pinned : Pinned := { name := "ytagnckiikljhkaa", sum := "9e15dde9e60c14e459d86862bdf7b786cfb5ef3050129982f5adc56c0b81977f", checked := Try.checked }
namespace Rows
def none {H : Type} : Left H := { results := [], args := [] }

/-- 'ciboriumlaw27.VerdictFirst': WHATEVER THE INPUT: true; the input reads as it did. -/
def verdictFirstSpec : ChangeSpec := { name := "verdictFirst", fn := fun _ => fun
  | [d] => { results := [.lit (.bool true)], args := [d] }
  | _ => none }
def verdictFirstRow : OpenClaim := { program := "ytagnckiikljhkaa", sum := "9e15dde9e60c14e459d86862bdf7b786cfb5ef3050129982f5adc56c0b81977f", func := "ciborium/ciboriumlaw27.VerdictFirst", spec := "verdictFirst", apart := false }
def VerdictFirstSaid : Prop := verdictFirstRow.holds Try.pinned (OpenSpec.ofChange verdictFirstSpec)

/-- ITS FALSE NEIGHBOUR: 'it returns false'. Refute it at one input. -/
def verdictFirstWrong : ChangeSpec := { name := "verdictFirst", fn := fun _ => fun
  | [d] => { results := [.lit (.bool false)], args := [d] }
  | _ => none }
def VerdictFirstWrongFalsely : Prop := verdictFirstRow.holds Try.pinned (OpenSpec.ofChange verdictFirstWrong)

/-- 'ciboriumlaw27.VerdictForgets': WHATEVER THE INPUT: true; the input reads as it did. -/
def verdictForgetsSpec : ChangeSpec := { name := "verdictForgets", fn := fun _ => fun
  | [d1, d2, d3, d4] => { results := [.lit (.bool true)], args := [d1, d2, d3, d4] }
  | _ => none }
def verdictForgetsRow : OpenClaim := { program := "ytagnckiikljhkaa", sum := "9e15dde9e60c14e459d86862bdf7b786cfb5ef3050129982f5adc56c0b81977f", func := "ciborium/ciboriumlaw27.VerdictForgets", spec := "verdictForgets", apart := false }
def VerdictForgetsSaid : Prop := verdictForgetsRow.holds Try.pinned (OpenSpec.ofChange verdictForgetsSpec)

/-- ITS FALSE NEIGHBOUR: 'it returns false'. Refute it at one input. -/
def verdictForgetsWrong : ChangeSpec := { name := "verdictForgets", fn := fun _ => fun
  | [d1, d2, d3, d4] => { results := [.lit (.bool false)], args := [d1, d2, d3, d4] }
  | _ => none }
def VerdictForgetsWrongFalsely : Prop := verdictForgetsRow.holds Try.pinned (OpenSpec.ofChange verdictForgetsWrong)

/-- 'ciboriumlaw27.VerdictNil': WHATEVER THE INPUT: true; the input reads as it did. -/
def verdictNilSpec : ChangeSpec := { name := "verdictNil", fn := fun _ => fun
  | [d] => { results := [.lit (.bool true)], args := [d] }
  | _ => none }
def verdictNilRow : OpenClaim := { program := "ytagnckiikljhkaa", sum := "9e15dde9e60c14e459d86862bdf7b786cfb5ef3050129982f5adc56c0b81977f", func := "ciborium/ciboriumlaw27.VerdictNil", spec := "verdictNil", apart := false }
def VerdictNilSaid : Prop := verdictNilRow.holds Try.pinned (OpenSpec.ofChange verdictNilSpec)

/-- ITS FALSE NEIGHBOUR: 'it returns false'. Refute it at one input. -/
def verdictNilWrong : ChangeSpec := { name := "verdictNil", fn := fun _ => fun
  | [d] => { results := [.lit (.bool false)], args := [d] }
  | _ => none }
def VerdictNilWrongFalsely : Prop := verdictNilRow.holds Try.pinned (OpenSpec.ofChange verdictNilWrong)

/- THE SECOND FORM. 'bulk': how many values and letters a reading holds, each counted each time it is reached (what is shared counts as often as it is met; a slice's spare places count too). A statement '..UptoSaid' is the law's where the arguments, and the package variables that the reading takes, are together of bulk at most 1048576: NARROWER than '..Said'. Prove '..Said' where nothing that the law and all that it calls make is longer than what came in: it says more and counts as full. Else prove '..UptoSaid'. A law counts once. -/
mutual
def uptoBulk {H : Type} : DataW H → Nat
  | .lit (.string bytes) => bytes.length + 1
  | .lit _ => 1
  | .nil => 1
  | .ptr d => uptoBulk d + 1
  | .slice elems spare => uptoBulkAll elems + uptoBulkAll spare + 1
  | .agg parts => uptoBulkAll parts + 1
  | .iface _ d => uptoBulk d + 1
  | .map entries => uptoBulkEntries entries + 1
  | .held _ => 1
def uptoBulkAll {H : Type} : List (DataW H) → Nat
  | [] => 0
  | d :: r => uptoBulk d + uptoBulkAll r
def uptoBulkEntries {H : Type} : List (Lit × DataW H) → Nat
  | [] => 0
  | x :: r => uptoBulkEntry x + uptoBulkEntries r
def uptoBulkEntry {H : Type} : Lit × DataW H → Nat
  | (.string bytes, d) => bytes.length + uptoBulk d + 1
  | (_, d) => uptoBulk d + 1
 end
def uptoSmall : (H : Type) → List (DataW H) → Bool := fun _ ds => decide (uptoBulkAll ds ≤ 1048576)
def OpenSpec.upto (s : _root_.Go.ChangeSpec) : _root_.Go.OpenSpec := { _root_.Go.OpenSpec.ofChange s with cond := some uptoSmall }

/-- 'ciboriumlaw27.VerdictFirst', WHERE WHAT IT READS IS OF BULK AT MOST 1048576: true; the input reads as it did. -/
def verdictFirstUptoRow : OpenClaim := { program := "ytagnckiikljhkaa", sum := "9e15dde9e60c14e459d86862bdf7b786cfb5ef3050129982f5adc56c0b81977f", func := "ciborium/ciboriumlaw27.VerdictFirst", spec := "verdictFirst", apart := false, narrowed := true }
def VerdictFirstUptoSaid : Prop := verdictFirstUptoRow.holds Try.pinned (OpenSpec.upto verdictFirstSpec)

/-- 'ciboriumlaw27.VerdictForgets', WHERE WHAT IT READS IS OF BULK AT MOST 1048576: true; the input reads as it did. -/
def verdictForgetsUptoRow : OpenClaim := { program := "ytagnckiikljhkaa", sum := "9e15dde9e60c14e459d86862bdf7b786cfb5ef3050129982f5adc56c0b81977f", func := "ciborium/ciboriumlaw27.VerdictForgets", spec := "verdictForgets", apart := false, narrowed := true }
def VerdictForgetsUptoSaid : Prop := verdictForgetsUptoRow.holds Try.pinned (OpenSpec.upto verdictForgetsSpec)

/-- 'ciboriumlaw27.VerdictNil', WHERE WHAT IT READS IS OF BULK AT MOST 1048576: true; the input reads as it did. -/
def verdictNilUptoRow : OpenClaim := { program := "ytagnckiikljhkaa", sum := "9e15dde9e60c14e459d86862bdf7b786cfb5ef3050129982f5adc56c0b81977f", func := "ciborium/ciboriumlaw27.VerdictNil", spec := "verdictNil", apart := false, narrowed := true }
def VerdictNilUptoSaid : Prop := verdictNilUptoRow.holds Try.pinned (OpenSpec.upto verdictNilSpec)

end Rows
end Go.Proofs.Ytagnckiikljhkaa
