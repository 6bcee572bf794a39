/-
  No cell of these rows narrows 'for every input' (looked for: loops, veiled, ifaces, maps, wideKeys, modest, calm, conditions, laid).
  DERIVED. THE GIVEN ROWS OF THIS SEAT. 4 by the template 'for every input the law returns true; each argument reads behind the call as it read before'; 0 by the template 'total and deterministic' (their statements: YthdanbpciifieaaTotals.lean).
  GIVEN WITH THE SEED: the statements are not yours to turn. If you find one false, say at which input.
  Laid BY PROGRAM, IN A SANDBOX (cutbox-rows.mjs): the forced cells as the released guide's own fill.sh prints them over the translation 6de5f18eb63421a0… (all of the seat's roots in one cut). By AI agents, Wed Nov 11 2026. No macro, syntax, notation, axiom, sorry.
-/
import Derived.Test.YthdanbpciifieaaChecked
import GoSem.Claim
import GoSem.ClaimJoined
import GoSem.ClaimMapViews
import Derived.JoinedTies
import Derived.KernelRfl
namespace Go.Proofs.Ythdanbpciifieaa
/- THE CELL 'sum', in the pinned program and in every row, IS THE sha256 OF THE DUMP (.gsa) THAT YthdanbpciifieaaProg.lean LOADS. Nothing in Lean hashes anything: it is a label: what it is worth is what the hold of that sum in a sandbox is worth. -/
noncomputable def Try.pinned : Pinned := { name := "ythdanbpciifieaa", sum := "6de5f18eb63421a0be01fb2e75c15126a0324dce1972ad16b98a254d00447c68", checked := Try.checked }
namespace Rows
def none {H : Type} : Left H := { results := [], args := [] }

/-- 'ciboriumlaw12.BitmapRuns': WHATEVER THE INPUT: true; the input reads as it did. -/
def bitmapRunsSpec : ChangeSpec := { name := "bitmapRuns", fn := fun _ => fun
  | [d1, d2, d3, d4] => { results := [.lit (.bool true)], args := [d1, d2, d3, d4] }
  | _ => none }
def bitmapRunsRow : OpenClaim := { program := "ythdanbpciifieaa", sum := "6de5f18eb63421a0be01fb2e75c15126a0324dce1972ad16b98a254d00447c68", func := "ciborium/ciboriumlaw12.BitmapRuns", spec := "bitmapRuns", unfollowed := true, recurses := true, apart := false }
def BitmapRunsSaid : Prop := bitmapRunsRow.holds Try.pinned (OpenSpec.ofChange bitmapRunsSpec)

/-- ITS FALSE NEIGHBOUR: 'it returns false'. Refute it at one input. -/
def bitmapRunsWrong : ChangeSpec := { name := "bitmapRuns", fn := fun _ => fun
  | [d1, d2, d3, d4] => { results := [.lit (.bool false)], args := [d1, d2, d3, d4] }
  | _ => none }
def BitmapRunsWrongFalsely : Prop := bitmapRunsRow.holds Try.pinned (OpenSpec.ofChange bitmapRunsWrong)

/-- 'ciboriumlaw12.BitmapLeast': WHATEVER THE INPUT: true; the input reads as it did. -/
def bitmapLeastSpec : ChangeSpec := { name := "bitmapLeast", fn := fun _ => fun
  | [d1, d2, d3] => { results := [.lit (.bool true)], args := [d1, d2, d3] }
  | _ => none }
def bitmapLeastRow : OpenClaim := { program := "ythdanbpciifieaa", sum := "6de5f18eb63421a0be01fb2e75c15126a0324dce1972ad16b98a254d00447c68", func := "ciborium/ciboriumlaw12.BitmapLeast", spec := "bitmapLeast", unfollowed := true, recurses := true, apart := false }
def BitmapLeastSaid : Prop := bitmapLeastRow.holds Try.pinned (OpenSpec.ofChange bitmapLeastSpec)

/-- ITS FALSE NEIGHBOUR: 'it returns false'. Refute it at one input. -/
def bitmapLeastWrong : ChangeSpec := { name := "bitmapLeast", fn := fun _ => fun
  | [d1, d2, d3] => { results := [.lit (.bool false)], args := [d1, d2, d3] }
  | _ => none }
def BitmapLeastWrongFalsely : Prop := bitmapLeastRow.holds Try.pinned (OpenSpec.ofChange bitmapLeastWrong)

/-- 'ciboriumlaw12.BitmapPlays': WHATEVER THE INPUT: true; the input reads as it did. -/
def bitmapPlaysSpec : ChangeSpec := { name := "bitmapPlays", fn := fun _ => fun
  | [d1, d2] => { results := [.lit (.bool true)], args := [d1, d2] }
  | _ => none }
def bitmapPlaysRow : OpenClaim := { program := "ythdanbpciifieaa", sum := "6de5f18eb63421a0be01fb2e75c15126a0324dce1972ad16b98a254d00447c68", func := "ciborium/ciboriumlaw12.BitmapPlays", spec := "bitmapPlays", unfollowed := true, recurses := true, apart := false }
def BitmapPlaysSaid : Prop := bitmapPlaysRow.holds Try.pinned (OpenSpec.ofChange bitmapPlaysSpec)

/-- ITS FALSE NEIGHBOUR: 'it returns false'. Refute it at one input. -/
def bitmapPlaysWrong : ChangeSpec := { name := "bitmapPlays", fn := fun _ => fun
  | [d1, d2] => { results := [.lit (.bool false)], args := [d1, d2] }
  | _ => none }
def BitmapPlaysWrongFalsely : Prop := bitmapPlaysRow.holds Try.pinned (OpenSpec.ofChange bitmapPlaysWrong)

/-- 'ciboriumlaw12.BitmapNil': WHATEVER THE INPUT: true; the input reads as it did. -/
def bitmapNilSpec : ChangeSpec := { name := "bitmapNil", fn := fun _ => fun
  | [d1, d2] => { results := [.lit (.bool true)], args := [d1, d2] }
  | _ => none }
def bitmapNilRow : OpenClaim := { program := "ythdanbpciifieaa", sum := "6de5f18eb63421a0be01fb2e75c15126a0324dce1972ad16b98a254d00447c68", func := "ciborium/ciboriumlaw12.BitmapNil", spec := "bitmapNil", unfollowed := true, recurses := true, apart := false }
def BitmapNilSaid : Prop := bitmapNilRow.holds Try.pinned (OpenSpec.ofChange bitmapNilSpec)

/-- ITS FALSE NEIGHBOUR: 'it returns false'. Refute it at one input. -/
def bitmapNilWrong : ChangeSpec := { name := "bitmapNil", fn := fun _ => fun
  | [d1, d2] => { results := [.lit (.bool false)], args := [d1, d2] }
  | _ => none }
def BitmapNilWrongFalsely : Prop := bitmapNilRow.holds Try.pinned (OpenSpec.ofChange bitmapNilWrong)

/- THE SECOND FORM. 'bulk': how many values and letters a reading holds, each counted each time it is reached (what is shared counts as often as it is met; a slice's spare places count too). A statement '..UptoSaid' is the law's where the arguments, and the package variables that the reading takes, are together of bulk at most 1048576: NARROWER than '..Said'. Prove '..Said' where nothing that the law and all that it calls make is longer than what came in: it says more and counts as full. Else prove '..UptoSaid'. A law counts once. -/
mutual
def uptoBulk {H : Type} : DataW H → Nat
  | .lit (.string bytes) => bytes.length + 1
  | .lit _ => 1
  | .nil => 1
  | .ptr d => uptoBulk d + 1
  | .slice elems spare => uptoBulkAll elems + uptoBulkAll spare + 1
  | .agg parts => uptoBulkAll parts + 1
  | .iface _ d => uptoBulk d + 1
  | .map entries => uptoBulkEntries entries + 1
  | .held _ => 1
def uptoBulkAll {H : Type} : List (DataW H) → Nat
  | [] => 0
  | d :: r => uptoBulk d + uptoBulkAll r
def uptoBulkEntries {H : Type} : List (Lit × DataW H) → Nat
  | [] => 0
  | x :: r => uptoBulkEntry x + uptoBulkEntries r
def uptoBulkEntry {H : Type} : Lit × DataW H → Nat
  | (.string bytes, d) => bytes.length + uptoBulk d + 1
  | (_, d) => uptoBulk d + 1
 end
def uptoSmall : (H : Type) → List (DataW H) → Bool := fun _ ds => decide (uptoBulkAll ds ≤ 1048576)
def OpenSpec.upto (s : _root_.Go.ChangeSpec) : _root_.Go.OpenSpec := { _root_.Go.OpenSpec.ofChange s with cond := some uptoSmall }

/-- 'ciboriumlaw12.BitmapRuns', WHERE WHAT IT READS IS OF BULK AT MOST 1048576: true; the input reads as it did. -/
def bitmapRunsUptoRow : OpenClaim := { program := "ythdanbpciifieaa", sum := "6de5f18eb63421a0be01fb2e75c15126a0324dce1972ad16b98a254d00447c68", func := "ciborium/ciboriumlaw12.BitmapRuns", spec := "bitmapRuns", unfollowed := true, recurses := true, apart := false, narrowed := true }
def BitmapRunsUptoSaid : Prop := bitmapRunsUptoRow.holds Try.pinned (OpenSpec.upto bitmapRunsSpec)

/-- 'ciboriumlaw12.BitmapLeast', WHERE WHAT IT READS IS OF BULK AT MOST 1048576: true; the input reads as it did. -/
def bitmapLeastUptoRow : OpenClaim := { program := "ythdanbpciifieaa", sum := "6de5f18eb63421a0be01fb2e75c15126a0324dce1972ad16b98a254d00447c68", func := "ciborium/ciboriumlaw12.BitmapLeast", spec := "bitmapLeast", unfollowed := true, recurses := true, apart := false, narrowed := true }
def BitmapLeastUptoSaid : Prop := bitmapLeastUptoRow.holds Try.pinned (OpenSpec.upto bitmapLeastSpec)

/-- 'ciboriumlaw12.BitmapPlays', WHERE WHAT IT READS IS OF BULK AT MOST 1048576: true; the input reads as it did. -/
def bitmapPlaysUptoRow : OpenClaim := { program := "ythdanbpciifieaa", sum := "6de5f18eb63421a0be01fb2e75c15126a0324dce1972ad16b98a254d00447c68", func := "ciborium/ciboriumlaw12.BitmapPlays", spec := "bitmapPlays", unfollowed := true, recurses := true, apart := false, narrowed := true }
def BitmapPlaysUptoSaid : Prop := bitmapPlaysUptoRow.holds Try.pinned (OpenSpec.upto bitmapPlaysSpec)

/-- 'ciboriumlaw12.BitmapNil', WHERE WHAT IT READS IS OF BULK AT MOST 1048576: true; the input reads as it did. -/
def bitmapNilUptoRow : OpenClaim := { program := "ythdanbpciifieaa", sum := "6de5f18eb63421a0be01fb2e75c15126a0324dce1972ad16b98a254d00447c68", func := "ciborium/ciboriumlaw12.BitmapNil", spec := "bitmapNil", unfollowed := true, recurses := true, apart := false, narrowed := true }
def BitmapNilUptoSaid : Prop := bitmapNilUptoRow.holds Try.pinned (OpenSpec.upto bitmapNilSpec)

end Rows
end Go.Proofs.Ythdanbpciifieaa
