/- A matrix that came in by itself. -/
import Derived.Test.YtnicfpkadiamaaaOpenR
import Derived.Test.YtnicfpkadiamaaaMatW
import Derived.OpenShut
import Derived.ShutString
import Derived.ChangeMaps5
set_option linter.unusedVariables false
set_option linter.unusedSimpArgs false
namespace Cib
open Go Go.RowKit Go.Proofs Go.ChangeShapes Go.WideShapes Go.Deep
def i64B (n : Int) : Prop := -9223372036854775808 ≤ n ∧ n ≤ 9223372036854775807
theorem openMat {H : Type} {enc : TypeId × Value → H} {w : World} {held : Bool} {fuel : Nat} {cs : Array Value} {x : DataW H × List MemPlace} (h : DataW.trod enc Try.prog w 0 (fun _ => true) held fuel 24 cs.toList = some x) :
    ∃ (r c : Int) (y : RowB), cs = mv r c y.A y.n y.c ∧ i64B r ∧ i64B c ∧ y.At w w.heap.size := by
  obtain ⟨xs, n, rfl, rfl, hl, hxl, hf⟩ := DataW.trod_struct Try.underlying24 h
  have hc : Try.prog.cellsOf 24 = 3 := by kernel_rfl
  rw [hc] at hl
  have hxl' : xs.length = 3 := hxl
  have c1 : Try.prog.cellsOf 3 = 1 := by kernel_rfl
  have c2 : Try.prog.cellsOf 22 = 1 := by kernel_rfl
  have g : ∀ i (hi : i < 3), (cs.toList.drop i).take 1 = [cs.toList[i]'(by omega)] := fun i hi => by
    rw [List.drop_eq_getElem_cons (by omega), List.take_succ_cons, List.take_zero]
  have f0 : DataW.trod enc Try.prog w 0 (fun _ => true) held n 3 ((cs.toList.drop 0).take (Try.prog.cellsOf 3)) = xs[0]? := hf 0 _ rfl
  have f1 : DataW.trod enc Try.prog w 0 (fun _ => true) held n 3 ((cs.toList.drop 1).take (Try.prog.cellsOf 3)) = xs[1]? := hf 1 _ rfl
  have f2 : DataW.trod enc Try.prog w 0 (fun _ => true) held n 22 ((cs.toList.drop 2).take (Try.prog.cellsOf 22)) = xs[2]? := hf 2 _ rfl
  rw [c1, g 0 (by omega), List.getElem?_eq_getElem (by omega)] at f0
  rw [c1, g 1 (by omega), List.getElem?_eq_getElem (by omega)] at f1
  rw [c2, g 2 (by omega), List.getElem?_eq_getElem (by omega)] at f2
  obtain ⟨a, ha, _, wa⟩ := DataW.trod_int Try.underlying3 f0
  obtain ⟨b, hb, _, wb⟩ := DataW.trod_int Try.underlying3 f1
  obtain ⟨y, hy, oky⟩ := open_row1 f2
  simp only [List.cons.injEq, and_true] at ha hb hy
  refine ⟨a, b, y, ?_, wf_i64 wa, wf_i64 wb, oky⟩
  apply Array.toList_inj.1
  apply List.ext_getElem
  · rw [hl]
    rfl
  · intro i h1 h2
    have : i = 0 ∨ i = 1 ∨ i = 2 := by omega
    rcases this with rfl | rfl | rfl
    · exact ha
    · exact hb
    · exact hy
end Cib
