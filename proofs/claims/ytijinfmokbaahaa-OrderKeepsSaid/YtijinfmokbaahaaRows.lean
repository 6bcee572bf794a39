/-
  No cell of these rows narrows 'for every input' (looked for: loops, veiled, ifaces, maps, wideKeys, modest, calm, conditions, laid).
  DERIVED. THE GIVEN ROWS OF THIS SEAT. 5 by the template 'for every input the law returns true; each argument reads behind the call as it read before'; 0 by the template 'total and deterministic' (their statements: YtijinfmokbaahaaTotals.lean).
  GIVEN WITH THE SEED: the statements are not yours to turn. If you find one false, say at which input.
  Laid BY PROGRAM, IN A SANDBOX (cutbox-rows.mjs): the forced cells as the released guide's own fill.sh prints them over the translation 385637ee831734e3… (all of the seat's roots in one cut). By AI agents, Wed Nov 11 2026. No macro, syntax, notation, axiom, sorry.
-/
import Derived.Test.YtijinfmokbaahaaChecked
import GoSem.Claim
import GoSem.ClaimJoined
import GoSem.ClaimMapViews
import Derived.JoinedTies
import Derived.KernelRfl
namespace Go.Proofs.Ytijinfmokbaahaa
/- THE CELL 'sum', in the pinned program and in every row, IS THE sha256 OF THE DUMP (.gsa) THAT YtijinfmokbaahaaProg.lean LOADS. Nothing in Lean hashes anything: it is a label: what it is worth is what the hold of that sum in a sandbox is worth. -/
noncomputable def Try.pinned : Pinned := { name := "ytijinfmokbaahaa", sum := "385637ee831734e3eee154bab73974d7ecaa773a76e89020daba96a661065e55", checked := Try.checked }
namespace Rows
def none {H : Type} : Left H := { results := [], args := [] }

/-- 'ciboriumlaw20.OrderPrefixes': WHATEVER THE INPUT: true; the input reads as it did. -/
def orderPrefixesSpec : ChangeSpec := { name := "orderPrefixes", fn := fun _ => fun
  | [d1, d2] => { results := [.lit (.bool true)], args := [d1, d2] }
  | _ => none }
def orderPrefixesRow : OpenClaim := { program := "ytijinfmokbaahaa", sum := "385637ee831734e3eee154bab73974d7ecaa773a76e89020daba96a661065e55", func := "ciborium/ciboriumlaw20.OrderPrefixes", spec := "orderPrefixes", inPlace := ["internal/bytealg.abigen_runtime_cmpstring"], unfollowed := true, recurses := true, apart := false }
def OrderPrefixesSaid : Prop := orderPrefixesRow.holds Try.pinned (OpenSpec.ofChange orderPrefixesSpec)

/-- ITS FALSE NEIGHBOUR: 'it returns false'. Refute it at one input. -/
def orderPrefixesWrong : ChangeSpec := { name := "orderPrefixes", fn := fun _ => fun
  | [d1, d2] => { results := [.lit (.bool false)], args := [d1, d2] }
  | _ => none }
def OrderPrefixesWrongFalsely : Prop := orderPrefixesRow.holds Try.pinned (OpenSpec.ofChange orderPrefixesWrong)

/-- 'ciboriumlaw20.OrderLooks': WHATEVER THE INPUT: true; the input reads as it did. -/
def orderLooksSpec : ChangeSpec := { name := "orderLooks", fn := fun _ => fun
  | [d1, d2, d3] => { results := [.lit (.bool true)], args := [d1, d2, d3] }
  | _ => none }
def orderLooksRow : OpenClaim := { program := "ytijinfmokbaahaa", sum := "385637ee831734e3eee154bab73974d7ecaa773a76e89020daba96a661065e55", func := "ciborium/ciboriumlaw20.OrderLooks", spec := "orderLooks", inPlace := ["internal/bytealg.abigen_runtime_cmpstring"], unfollowed := true, recurses := true, apart := false }
def OrderLooksSaid : Prop := orderLooksRow.holds Try.pinned (OpenSpec.ofChange orderLooksSpec)

/-- ITS FALSE NEIGHBOUR: 'it returns false'. Refute it at one input. -/
def orderLooksWrong : ChangeSpec := { name := "orderLooks", fn := fun _ => fun
  | [d1, d2, d3] => { results := [.lit (.bool false)], args := [d1, d2, d3] }
  | _ => none }
def OrderLooksWrongFalsely : Prop := orderLooksRow.holds Try.pinned (OpenSpec.ofChange orderLooksWrong)

/-- 'ciboriumlaw20.OrderMeets': WHATEVER THE INPUT: true; the input reads as it did. -/
def orderMeetsSpec : ChangeSpec := { name := "orderMeets", fn := fun _ => fun
  | [d1, d2, d3] => { results := [.lit (.bool true)], args := [d1, d2, d3] }
  | _ => none }
def orderMeetsRow : OpenClaim := { program := "ytijinfmokbaahaa", sum := "385637ee831734e3eee154bab73974d7ecaa773a76e89020daba96a661065e55", func := "ciborium/ciboriumlaw20.OrderMeets", spec := "orderMeets", inPlace := ["internal/bytealg.abigen_runtime_cmpstring"], unfollowed := true, recurses := true, apart := false }
def OrderMeetsSaid : Prop := orderMeetsRow.holds Try.pinned (OpenSpec.ofChange orderMeetsSpec)

/-- ITS FALSE NEIGHBOUR: 'it returns false'. Refute it at one input. -/
def orderMeetsWrong : ChangeSpec := { name := "orderMeets", fn := fun _ => fun
  | [d1, d2, d3] => { results := [.lit (.bool false)], args := [d1, d2, d3] }
  | _ => none }
def OrderMeetsWrongFalsely : Prop := orderMeetsRow.holds Try.pinned (OpenSpec.ofChange orderMeetsWrong)

/-- 'ciboriumlaw20.OrderUnions': WHATEVER THE INPUT: true; the input reads as it did. -/
def orderUnionsSpec : ChangeSpec := { name := "orderUnions", fn := fun _ => fun
  | [d1, d2, d3] => { results := [.lit (.bool true)], args := [d1, d2, d3] }
  | _ => none }
def orderUnionsRow : OpenClaim := { program := "ytijinfmokbaahaa", sum := "385637ee831734e3eee154bab73974d7ecaa773a76e89020daba96a661065e55", func := "ciborium/ciboriumlaw20.OrderUnions", spec := "orderUnions", inPlace := ["internal/bytealg.abigen_runtime_cmpstring"], unfollowed := true, recurses := true, apart := false }
def OrderUnionsSaid : Prop := orderUnionsRow.holds Try.pinned (OpenSpec.ofChange orderUnionsSpec)

/-- ITS FALSE NEIGHBOUR: 'it returns false'. Refute it at one input. -/
def orderUnionsWrong : ChangeSpec := { name := "orderUnions", fn := fun _ => fun
  | [d1, d2, d3] => { results := [.lit (.bool false)], args := [d1, d2, d3] }
  | _ => none }
def OrderUnionsWrongFalsely : Prop := orderUnionsRow.holds Try.pinned (OpenSpec.ofChange orderUnionsWrong)

/-- 'ciboriumlaw20.OrderKeeps': WHATEVER THE INPUT: true; the input reads as it did. -/
def orderKeepsSpec : ChangeSpec := { name := "orderKeeps", fn := fun _ => fun
  | [d1, d2, d3] => { results := [.lit (.bool true)], args := [d1, d2, d3] }
  | _ => none }
def orderKeepsRow : OpenClaim := { program := "ytijinfmokbaahaa", sum := "385637ee831734e3eee154bab73974d7ecaa773a76e89020daba96a661065e55", func := "ciborium/ciboriumlaw20.OrderKeeps", spec := "orderKeeps", inPlace := ["internal/bytealg.abigen_runtime_cmpstring"], unfollowed := true, recurses := true, apart := false }
def OrderKeepsSaid : Prop := orderKeepsRow.holds Try.pinned (OpenSpec.ofChange orderKeepsSpec)

/-- ITS FALSE NEIGHBOUR: 'it returns false'. Refute it at one input. -/
def orderKeepsWrong : ChangeSpec := { name := "orderKeeps", fn := fun _ => fun
  | [d1, d2, d3] => { results := [.lit (.bool false)], args := [d1, d2, d3] }
  | _ => none }
def OrderKeepsWrongFalsely : Prop := orderKeepsRow.holds Try.pinned (OpenSpec.ofChange orderKeepsWrong)

/- THE SECOND FORM. 'bulk': how many values and letters a reading holds, each counted each time it is reached (what is shared counts as often as it is met; a slice's spare places count too). A statement '..UptoSaid' is the law's where the arguments, and the package variables that the reading takes, are together of bulk at most 1048576: NARROWER than '..Said'. Prove '..Said' where nothing that the law and all that it calls make is longer than what came in: it says more and counts as full. Else prove '..UptoSaid'. A law counts once. -/
mutual
def uptoBulk {H : Type} : DataW H → Nat
  | .lit (.string bytes) => bytes.length + 1
  | .lit _ => 1
  | .nil => 1
  | .ptr d => uptoBulk d + 1
  | .slice elems spare => uptoBulkAll elems + uptoBulkAll spare + 1
  | .agg parts => uptoBulkAll parts + 1
  | .iface _ d => uptoBulk d + 1
  | .map entries => uptoBulkEntries entries + 1
  | .held _ => 1
def uptoBulkAll {H : Type} : List (DataW H) → Nat
  | [] => 0
  | d :: r => uptoBulk d + uptoBulkAll r
def uptoBulkEntries {H : Type} : List (Lit × DataW H) → Nat
  | [] => 0
  | x :: r => uptoBulkEntry x + uptoBulkEntries r
def uptoBulkEntry {H : Type} : Lit × DataW H → Nat
  | (.string bytes, d) => bytes.length + uptoBulk d + 1
  | (_, d) => uptoBulk d + 1
 end
def uptoSmall : (H : Type) → List (DataW H) → Bool := fun _ ds => decide (uptoBulkAll ds ≤ 1048576)
def OpenSpec.upto (s : _root_.Go.ChangeSpec) : _root_.Go.OpenSpec := { _root_.Go.OpenSpec.ofChange s with cond := some uptoSmall }

/-- 'ciboriumlaw20.OrderPrefixes', WHERE WHAT IT READS IS OF BULK AT MOST 1048576: true; the input reads as it did. -/
def orderPrefixesUptoRow : OpenClaim := { program := "ytijinfmokbaahaa", sum := "385637ee831734e3eee154bab73974d7ecaa773a76e89020daba96a661065e55", func := "ciborium/ciboriumlaw20.OrderPrefixes", spec := "orderPrefixes", inPlace := ["internal/bytealg.abigen_runtime_cmpstring"], unfollowed := true, recurses := true, apart := false, narrowed := true }
def OrderPrefixesUptoSaid : Prop := orderPrefixesUptoRow.holds Try.pinned (OpenSpec.upto orderPrefixesSpec)

/-- 'ciboriumlaw20.OrderLooks', WHERE WHAT IT READS IS OF BULK AT MOST 1048576: true; the input reads as it did. -/
def orderLooksUptoRow : OpenClaim := { program := "ytijinfmokbaahaa", sum := "385637ee831734e3eee154bab73974d7ecaa773a76e89020daba96a661065e55", func := "ciborium/ciboriumlaw20.OrderLooks", spec := "orderLooks", inPlace := ["internal/bytealg.abigen_runtime_cmpstring"], unfollowed := true, recurses := true, apart := false, narrowed := true }
def OrderLooksUptoSaid : Prop := orderLooksUptoRow.holds Try.pinned (OpenSpec.upto orderLooksSpec)

/-- 'ciboriumlaw20.OrderMeets', WHERE WHAT IT READS IS OF BULK AT MOST 1048576: true; the input reads as it did. -/
def orderMeetsUptoRow : OpenClaim := { program := "ytijinfmokbaahaa", sum := "385637ee831734e3eee154bab73974d7ecaa773a76e89020daba96a661065e55", func := "ciborium/ciboriumlaw20.OrderMeets", spec := "orderMeets", inPlace := ["internal/bytealg.abigen_runtime_cmpstring"], unfollowed := true, recurses := true, apart := false, narrowed := true }
def OrderMeetsUptoSaid : Prop := orderMeetsUptoRow.holds Try.pinned (OpenSpec.upto orderMeetsSpec)

/-- 'ciboriumlaw20.OrderUnions', WHERE WHAT IT READS IS OF BULK AT MOST 1048576: true; the input reads as it did. -/
def orderUnionsUptoRow : OpenClaim := { program := "ytijinfmokbaahaa", sum := "385637ee831734e3eee154bab73974d7ecaa773a76e89020daba96a661065e55", func := "ciborium/ciboriumlaw20.OrderUnions", spec := "orderUnions", inPlace := ["internal/bytealg.abigen_runtime_cmpstring"], unfollowed := true, recurses := true, apart := false, narrowed := true }
def OrderUnionsUptoSaid : Prop := orderUnionsUptoRow.holds Try.pinned (OpenSpec.upto orderUnionsSpec)

/-- 'ciboriumlaw20.OrderKeeps', WHERE WHAT IT READS IS OF BULK AT MOST 1048576: true; the input reads as it did. -/
def orderKeepsUptoRow : OpenClaim := { program := "ytijinfmokbaahaa", sum := "385637ee831734e3eee154bab73974d7ecaa773a76e89020daba96a661065e55", func := "ciborium/ciboriumlaw20.OrderKeeps", spec := "orderKeeps", inPlace := ["internal/bytealg.abigen_runtime_cmpstring"], unfollowed := true, recurses := true, apart := false, narrowed := true }
def OrderKeepsUptoSaid : Prop := orderKeepsUptoRow.holds Try.pinned (OpenSpec.upto orderKeepsSpec)

end Rows
end Go.Proofs.Ytijinfmokbaahaa
