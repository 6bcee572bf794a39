/- A span that came in by itself. -/
import Derived.Test.YtijinfmokbaahaaOrdL2
import Derived.OpenShut
import Derived.ShutString
import Derived.ChangeMaps5
set_option linter.unusedVariables false
set_option linter.unusedSimpArgs false
namespace Cib
open Go Go.RowKit Go.Proofs Go.ChangeShapes Go.WideShapes Go.Deep
theorem openSpan {H : Type} {enc : TypeId × Value → H} {w : World} {held : Bool} {fuel : Nat} {cs : Array Value} {x : DataW H × List MemPlace} (h : DataW.trod enc Try.prog w 0 (fun _ => true) held fuel 26 cs.toList = some x) :
    ∃ f t : ByteArray, cs = #[.string f, .string t] ∧ f.size ≤ maxLen ∧ t.size ≤ maxLen := by
  obtain ⟨xs, n, rfl, rfl, hl, hxl, hf⟩ := DataW.trod_struct Try.underlying26 h
  have hc : Try.prog.cellsOf 26 = 2 := by kernel_rfl
  rw [hc] at hl
  have hxl' : xs.length = 2 := hxl
  have c1 : Try.prog.cellsOf 9 = 1 := by kernel_rfl
  have g : ∀ i (hi : i < 2), (cs.toList.drop i).take 1 = [cs.toList[i]'(by omega)] := fun i hi => by
    rw [List.drop_eq_getElem_cons (by omega), List.take_succ_cons, List.take_zero]
  have f0 : DataW.trod enc Try.prog w 0 (fun _ => true) held n 9 ((cs.toList.drop 0).take (Try.prog.cellsOf 9)) = xs[0]? := hf 0 _ rfl
  have f1 : DataW.trod enc Try.prog w 0 (fun _ => true) held n 9 ((cs.toList.drop 1).take (Try.prog.cellsOf 9)) = xs[1]? := hf 1 _ rfl
  rw [c1, g 0 (by omega), List.getElem?_eq_getElem (by omega)] at f0
  rw [c1, g 1 (by omega), List.getElem?_eq_getElem (by omega)] at f1
  obtain ⟨a, ha, _, wa⟩ := DataW.trod_string Try.underlying9 f0
  obtain ⟨b, hb, _, wb⟩ := DataW.trod_string Try.underlying9 f1
  simp only [List.cons.injEq, and_true] at ha hb
  refine ⟨a, b, ?_, wa, wb⟩
  apply Array.toList_inj.1
  apply List.ext_getElem
  · rw [hl]
    rfl
  · intro i h1 h2
    have : i = 0 ∨ i = 1 := by omega
    rcases this with rfl | rfl
    · exact ha
    · exact hb
end Cib
