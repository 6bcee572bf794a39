/- An act that came in by itself. -/
import Derived.Test.YtdhadhhhicnhpaaPolL
import Derived.OpenShut
import Derived.ShutString
import Derived.ChangeMaps5
set_option linter.unusedVariables false
set_option linter.unusedSimpArgs false
namespace Cib
open Go Go.RowKit Go.Proofs Go.ChangeShapes Go.WideShapes Go.Deep
theorem openAct {H : Type} {enc : TypeId × Value → H} {w : World} {held : Bool} {fuel : Nat} {cs : Array Value} {x : DataW H × List MemPlace} (h : DataW.trod enc Try.prog w 0 (fun _ => true) held fuel 30 cs.toList = some x) :
    ∃ r : ActP, cs = (actPRow r).toArray ∧ r.ok w w.heap.size := by
  obtain ⟨xs, n, rfl, rfl, hl, hxl, hf⟩ := DataW.trod_struct Try.underlying30 h
  have hc : Try.prog.cellsOf 30 = 4 := by kernel_rfl
  rw [hc] at hl
  have hxl' : xs.length = 4 := hxl
  have c1 : Try.prog.cellsOf 3 = 1 := by kernel_rfl
  have c2 : Try.prog.cellsOf 27 = 1 := by kernel_rfl
  have c3 : Try.prog.cellsOf 28 = 1 := by kernel_rfl
  have g : ∀ i (hi : i < 4), (cs.toList.drop i).take 1 = [cs.toList[i]'(by omega)] := fun i hi => by
    rw [List.drop_eq_getElem_cons (by omega), List.take_succ_cons, List.take_zero]
  have f0 : DataW.trod enc Try.prog w 0 (fun _ => true) held n 3 ((cs.toList.drop 0).take (Try.prog.cellsOf 3)) = xs[0]? := hf 0 _ rfl
  have f1 : DataW.trod enc Try.prog w 0 (fun _ => true) held n 3 ((cs.toList.drop 1).take (Try.prog.cellsOf 3)) = xs[1]? := hf 1 _ rfl
  have f2 : DataW.trod enc Try.prog w 0 (fun _ => true) held n 27 ((cs.toList.drop 2).take (Try.prog.cellsOf 27)) = xs[2]? := hf 2 _ rfl
  have f3 : DataW.trod enc Try.prog w 0 (fun _ => true) held n 28 ((cs.toList.drop 3).take (Try.prog.cellsOf 28)) = xs[3]? := hf 3 _ rfl
  rw [c1, g 0 (by omega), List.getElem?_eq_getElem (by omega)] at f0
  rw [c1, g 1 (by omega), List.getElem?_eq_getElem (by omega)] at f1
  rw [c2, g 2 (by omega), List.getElem?_eq_getElem (by omega)] at f2
  rw [c3, g 3 (by omega), List.getElem?_eq_getElem (by omega)] at f3
  obtain ⟨a, ha, _, wa⟩ := DataW.trod_int Try.underlying3 f0
  obtain ⟨b, hb, _, wb⟩ := DataW.trod_int Try.underlying3 f1
  obtain ⟨y, hy, oky⟩ := open_intR f2
  obtain ⟨d, hd, _, wd⟩ := DataW.trod_int Try.underlying28 f3
  obtain ⟨k, rfl, hk⟩ := wf_u64 wd
  simp only [List.cons.injEq, and_true] at ha hb hd
  refine ⟨⟨a, b, y, k⟩, ?_, wf_i64 wb, oky, hk⟩
  apply Array.toList_inj.1
  apply List.ext_getElem
  · rw [hl]
    rfl
  · intro i h1 h2
    have : i = 0 ∨ i = 1 ∨ i = 2 ∨ i = 3 := by omega
    rcases this with rfl | rfl | rfl | rfl
    · exact ha
    · exact hb
    · exact hy
    · exact hd
end Cib
