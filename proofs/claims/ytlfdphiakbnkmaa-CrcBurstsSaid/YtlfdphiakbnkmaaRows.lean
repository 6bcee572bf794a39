/-
  No cell of these rows narrows 'for every input' (looked for: loops, veiled, ifaces, maps, wideKeys, modest, calm, conditions, laid).
  DERIVED. THE GIVEN ROWS OF THIS SEAT. 6 by the template 'for every input the law returns true; each argument reads behind the call as it read before'; 0 by the template 'total and deterministic' (their statements: YtlfdphiakbnkmaaTotals.lean).
  GIVEN WITH THE SEED: the statements are not yours to turn. If you find one false, say at which input.
  Laid BY PROGRAM, IN A SANDBOX (cutbox-rows.mjs): the forced cells as the released guide's own fill.sh prints them over the translation 8b26a5c48a573cc4… (all of the seat's roots in one cut). By AI agents, Wed Nov 11 2026. No macro, syntax, notation, axiom, sorry.
-/
import Derived.Test.YtlfdphiakbnkmaaChecked
import GoSem.Claim
import GoSem.ClaimJoined
import GoSem.ClaimMapViews
import Derived.JoinedTies
import Derived.KernelRfl
namespace Go.Proofs.Ytlfdphiakbnkmaa
/- THE CELL 'sum', in the pinned program and in every row, IS THE sha256 OF THE DUMP (.gsa) THAT YtlfdphiakbnkmaaProg.lean LOADS. Nothing in Lean hashes anything: it is a label: what it is worth is what the hold of that sum in a sandbox is worth. -/
noncomputable def Try.pinned : Pinned := { name := "ytlfdphiakbnkmaa", sum := "8b26a5c48a573cc4630c2727f1a9d98e9056d6fdae655347537466caf44fefa9", checked := Try.checked }
namespace Rows
def none {H : Type} : Left H := { results := [], args := [] }

/-- 'ciboriumlaw02.CrcSums': WHATEVER THE INPUT: true; the input reads as it did. -/
def crcSumsSpec : ChangeSpec := { name := "crcSums", fn := fun _ => fun
  | [d1, d2] => { results := [.lit (.bool true)], args := [d1, d2] }
  | _ => none }
def crcSumsRow : OpenClaim := { program := "ytlfdphiakbnkmaa", sum := "8b26a5c48a573cc4630c2727f1a9d98e9056d6fdae655347537466caf44fefa9", func := "ciborium/ciboriumlaw02.CrcSums", spec := "crcSums", unfollowed := true, recurses := true, apart := false }
def CrcSumsSaid : Prop := crcSumsRow.holds Try.pinned (OpenSpec.ofChange crcSumsSpec)

/-- ITS FALSE NEIGHBOUR: 'it returns false'. Refute it at one input. -/
def crcSumsWrong : ChangeSpec := { name := "crcSums", fn := fun _ => fun
  | [d1, d2] => { results := [.lit (.bool false)], args := [d1, d2] }
  | _ => none }
def CrcSumsWrongFalsely : Prop := crcSumsRow.holds Try.pinned (OpenSpec.ofChange crcSumsWrong)

/-- 'ciboriumlaw02.CrcJoins': WHATEVER THE INPUT: true; the input reads as it did. -/
def crcJoinsSpec : ChangeSpec := { name := "crcJoins", fn := fun _ => fun
  | [d1, d2] => { results := [.lit (.bool true)], args := [d1, d2] }
  | _ => none }
def crcJoinsRow : OpenClaim := { program := "ytlfdphiakbnkmaa", sum := "8b26a5c48a573cc4630c2727f1a9d98e9056d6fdae655347537466caf44fefa9", func := "ciborium/ciboriumlaw02.CrcJoins", spec := "crcJoins", unfollowed := true, recurses := true, apart := false }
def CrcJoinsSaid : Prop := crcJoinsRow.holds Try.pinned (OpenSpec.ofChange crcJoinsSpec)

/-- ITS FALSE NEIGHBOUR: 'it returns false'. Refute it at one input. -/
def crcJoinsWrong : ChangeSpec := { name := "crcJoins", fn := fun _ => fun
  | [d1, d2] => { results := [.lit (.bool false)], args := [d1, d2] }
  | _ => none }
def CrcJoinsWrongFalsely : Prop := crcJoinsRow.holds Try.pinned (OpenSpec.ofChange crcJoinsWrong)

/-- 'ciboriumlaw02.CrcBursts': WHATEVER THE INPUT: true; the input reads as it did. -/
def crcBurstsSpec : ChangeSpec := { name := "crcBursts", fn := fun _ => fun
  | [d1, d2, d3] => { results := [.lit (.bool true)], args := [d1, d2, d3] }
  | _ => none }
def crcBurstsRow : OpenClaim := { program := "ytlfdphiakbnkmaa", sum := "8b26a5c48a573cc4630c2727f1a9d98e9056d6fdae655347537466caf44fefa9", func := "ciborium/ciboriumlaw02.CrcBursts", spec := "crcBursts", unfollowed := true, recurses := true, apart := false }
def CrcBurstsSaid : Prop := crcBurstsRow.holds Try.pinned (OpenSpec.ofChange crcBurstsSpec)

/-- ITS FALSE NEIGHBOUR: 'it returns false'. Refute it at one input. -/
def crcBurstsWrong : ChangeSpec := { name := "crcBursts", fn := fun _ => fun
  | [d1, d2, d3] => { results := [.lit (.bool false)], args := [d1, d2, d3] }
  | _ => none }
def CrcBurstsWrongFalsely : Prop := crcBurstsRow.holds Try.pinned (OpenSpec.ofChange crcBurstsWrong)

/-- 'ciboriumlaw02.CrcFar': WHATEVER THE INPUT: true; the input reads as it did. -/
def crcFarSpec : ChangeSpec := { name := "crcFar", fn := fun _ => fun
  | [d1, d2, d3] => { results := [.lit (.bool true)], args := [d1, d2, d3] }
  | _ => none }
def crcFarRow : OpenClaim := { program := "ytlfdphiakbnkmaa", sum := "8b26a5c48a573cc4630c2727f1a9d98e9056d6fdae655347537466caf44fefa9", func := "ciborium/ciboriumlaw02.CrcFar", spec := "crcFar", unfollowed := true, recurses := true, apart := false }
def CrcFarSaid : Prop := crcFarRow.holds Try.pinned (OpenSpec.ofChange crcFarSpec)

/-- ITS FALSE NEIGHBOUR: 'it returns false'. Refute it at one input. -/
def crcFarWrong : ChangeSpec := { name := "crcFar", fn := fun _ => fun
  | [d1, d2, d3] => { results := [.lit (.bool false)], args := [d1, d2, d3] }
  | _ => none }
def CrcFarWrongFalsely : Prop := crcFarRow.holds Try.pinned (OpenSpec.ofChange crcFarWrong)

/-- 'ciboriumlaw02.CrcChanges': WHATEVER THE INPUT: true; the input reads as it did. -/
def crcChangesSpec : ChangeSpec := { name := "crcChanges", fn := fun _ => fun
  | [d1, d2, d3] => { results := [.lit (.bool true)], args := [d1, d2, d3] }
  | _ => none }
def crcChangesRow : OpenClaim := { program := "ytlfdphiakbnkmaa", sum := "8b26a5c48a573cc4630c2727f1a9d98e9056d6fdae655347537466caf44fefa9", func := "ciborium/ciboriumlaw02.CrcChanges", spec := "crcChanges", unfollowed := true, recurses := true, apart := false }
def CrcChangesSaid : Prop := crcChangesRow.holds Try.pinned (OpenSpec.ofChange crcChangesSpec)

/-- ITS FALSE NEIGHBOUR: 'it returns false'. Refute it at one input. -/
def crcChangesWrong : ChangeSpec := { name := "crcChanges", fn := fun _ => fun
  | [d1, d2, d3] => { results := [.lit (.bool false)], args := [d1, d2, d3] }
  | _ => none }
def CrcChangesWrongFalsely : Prop := crcChangesRow.holds Try.pinned (OpenSpec.ofChange crcChangesWrong)

/-- 'ciboriumlaw02.CrcCarries': WHATEVER THE INPUT: true; the input reads as it did. -/
def crcCarriesSpec : ChangeSpec := { name := "crcCarries", fn := fun _ => fun
  | [d1, d2, d3, d4] => { results := [.lit (.bool true)], args := [d1, d2, d3, d4] }
  | _ => none }
def crcCarriesRow : OpenClaim := { program := "ytlfdphiakbnkmaa", sum := "8b26a5c48a573cc4630c2727f1a9d98e9056d6fdae655347537466caf44fefa9", func := "ciborium/ciboriumlaw02.CrcCarries", spec := "crcCarries", unfollowed := true, recurses := true, apart := false }
def CrcCarriesSaid : Prop := crcCarriesRow.holds Try.pinned (OpenSpec.ofChange crcCarriesSpec)

/-- ITS FALSE NEIGHBOUR: 'it returns false'. Refute it at one input. -/
def crcCarriesWrong : ChangeSpec := { name := "crcCarries", fn := fun _ => fun
  | [d1, d2, d3, d4] => { results := [.lit (.bool false)], args := [d1, d2, d3, d4] }
  | _ => none }
def CrcCarriesWrongFalsely : Prop := crcCarriesRow.holds Try.pinned (OpenSpec.ofChange crcCarriesWrong)

/- THE SECOND FORM. 'bulk': how many values and letters a reading holds, each counted each time it is reached (what is shared counts as often as it is met; a slice's spare places count too). A statement '..UptoSaid' is the law's where the arguments, and the package variables that the reading takes, are together of bulk at most 1048576: NARROWER than '..Said'. Prove '..Said' where nothing that the law and all that it calls make is longer than what came in: it says more and counts as full. Else prove '..UptoSaid'. A law counts once. -/
mutual
def uptoBulk {H : Type} : DataW H → Nat
  | .lit (.string bytes) => bytes.length + 1
  | .lit _ => 1
  | .nil => 1
  | .ptr d => uptoBulk d + 1
  | .slice elems spare => uptoBulkAll elems + uptoBulkAll spare + 1
  | .agg parts => uptoBulkAll parts + 1
  | .iface _ d => uptoBulk d + 1
  | .map entries => uptoBulkEntries entries + 1
  | .held _ => 1
def uptoBulkAll {H : Type} : List (DataW H) → Nat
  | [] => 0
  | d :: r => uptoBulk d + uptoBulkAll r
def uptoBulkEntries {H : Type} : List (Lit × DataW H) → Nat
  | [] => 0
  | x :: r => uptoBulkEntry x + uptoBulkEntries r
def uptoBulkEntry {H : Type} : Lit × DataW H → Nat
  | (.string bytes, d) => bytes.length + uptoBulk d + 1
  | (_, d) => uptoBulk d + 1
 end
def uptoSmall : (H : Type) → List (DataW H) → Bool := fun _ ds => decide (uptoBulkAll ds ≤ 1048576)
def OpenSpec.upto (s : _root_.Go.ChangeSpec) : _root_.Go.OpenSpec := { _root_.Go.OpenSpec.ofChange s with cond := some uptoSmall }

/-- 'ciboriumlaw02.CrcSums', WHERE WHAT IT READS IS OF BULK AT MOST 1048576: true; the input reads as it did. -/
def crcSumsUptoRow : OpenClaim := { program := "ytlfdphiakbnkmaa", sum := "8b26a5c48a573cc4630c2727f1a9d98e9056d6fdae655347537466caf44fefa9", func := "ciborium/ciboriumlaw02.CrcSums", spec := "crcSums", unfollowed := true, recurses := true, apart := false, narrowed := true }
def CrcSumsUptoSaid : Prop := crcSumsUptoRow.holds Try.pinned (OpenSpec.upto crcSumsSpec)

/-- 'ciboriumlaw02.CrcJoins', WHERE WHAT IT READS IS OF BULK AT MOST 1048576: true; the input reads as it did. -/
def crcJoinsUptoRow : OpenClaim := { program := "ytlfdphiakbnkmaa", sum := "8b26a5c48a573cc4630c2727f1a9d98e9056d6fdae655347537466caf44fefa9", func := "ciborium/ciboriumlaw02.CrcJoins", spec := "crcJoins", unfollowed := true, recurses := true, apart := false, narrowed := true }
def CrcJoinsUptoSaid : Prop := crcJoinsUptoRow.holds Try.pinned (OpenSpec.upto crcJoinsSpec)

/-- 'ciboriumlaw02.CrcBursts', WHERE WHAT IT READS IS OF BULK AT MOST 1048576: true; the input reads as it did. -/
def crcBurstsUptoRow : OpenClaim := { program := "ytlfdphiakbnkmaa", sum := "8b26a5c48a573cc4630c2727f1a9d98e9056d6fdae655347537466caf44fefa9", func := "ciborium/ciboriumlaw02.CrcBursts", spec := "crcBursts", unfollowed := true, recurses := true, apart := false, narrowed := true }
def CrcBurstsUptoSaid : Prop := crcBurstsUptoRow.holds Try.pinned (OpenSpec.upto crcBurstsSpec)

/-- 'ciboriumlaw02.CrcFar', WHERE WHAT IT READS IS OF BULK AT MOST 1048576: true; the input reads as it did. -/
def crcFarUptoRow : OpenClaim := { program := "ytlfdphiakbnkmaa", sum := "8b26a5c48a573cc4630c2727f1a9d98e9056d6fdae655347537466caf44fefa9", func := "ciborium/ciboriumlaw02.CrcFar", spec := "crcFar", unfollowed := true, recurses := true, apart := false, narrowed := true }
def CrcFarUptoSaid : Prop := crcFarUptoRow.holds Try.pinned (OpenSpec.upto crcFarSpec)

/-- 'ciboriumlaw02.CrcChanges', WHERE WHAT IT READS IS OF BULK AT MOST 1048576: true; the input reads as it did. -/
def crcChangesUptoRow : OpenClaim := { program := "ytlfdphiakbnkmaa", sum := "8b26a5c48a573cc4630c2727f1a9d98e9056d6fdae655347537466caf44fefa9", func := "ciborium/ciboriumlaw02.CrcChanges", spec := "crcChanges", unfollowed := true, recurses := true, apart := false, narrowed := true }
def CrcChangesUptoSaid : Prop := crcChangesUptoRow.holds Try.pinned (OpenSpec.upto crcChangesSpec)

/-- 'ciboriumlaw02.CrcCarries', WHERE WHAT IT READS IS OF BULK AT MOST 1048576: true; the input reads as it did. -/
def crcCarriesUptoRow : OpenClaim := { program := "ytlfdphiakbnkmaa", sum := "8b26a5c48a573cc4630c2727f1a9d98e9056d6fdae655347537466caf44fefa9", func := "ciborium/ciboriumlaw02.CrcCarries", spec := "crcCarries", unfollowed := true, recurses := true, apart := false, narrowed := true }
def CrcCarriesUptoSaid : Prop := crcCarriesUptoRow.holds Try.pinned (OpenSpec.upto crcCarriesSpec)

end Rows
end Go.Proofs.Ytlfdphiakbnkmaa
