/- A shard, a reference that came in, opened. -/
import Derived.Test.YtpkpdamdclafjaaShdW
import Derived.Test.YtpkpdamdclafjaaOpen
set_option linter.unusedVariables false
set_option linter.unusedSimpArgs false
set_option maxRecDepth 20000
namespace Cib
open Go Go.RowKit Go.ChangeShapes Go.WideShapes Go.Deep Go.Proofs
section
variable {H : Type} {enc : TypeId × Value → H} {w : World} {base : Nat} {spare : Nat → Bool} {held : Bool} {fuel : Nat}
theorem five_of {l : List Value} (h : 5 ≤ l.length) : l = [l[0], l[1], l[2], l[3], l[4]] ++ l.drop 5 := by
  match l, h with
  | a :: b :: c :: d :: e :: r, _ => rfl
theorem wf_u16 {n : Int} (h : (Lit.int .u16 n).wf = true) : ∃ m : Nat, n = (m : Int) ∧ m < 65536 := by
  simp only [Lit.wf, Bool.and_eq_true, decide_eq_true_eq] at h
  have h1 : IntKind.u16.min = 0 := rfl
  have h2 : IntKind.u16.max = 65535 := rfl
  exact ⟨n.toNat, by omega, by omega⟩
theorem wf_u32' {n : Int} (h : (Lit.int .u32 n).wf = true) : ∃ m : Nat, n = (m : Int) ∧ m < 4294967296 := by
  have hb := bounds_u32 h
  exact ⟨n.toNat, by omega, by omega⟩
theorem openShard {cs : Array Value} {x : DataW H × List MemPlace} (h : DataW.trod enc Try.prog w base spare held fuel 26 cs.toList = some x) : ∃ s : Shd.Sh, s.ok ∧ cs = shC s := by
  obtain ⟨xs, n, rfl, rfl, hl, hxl, hf⟩ := DataW.trod_struct Try.underlying26 h
  have hc : Try.prog.cellsOf 26 = 49 := by kernel_rfl
  rw [hc] at hl
  have hxl' : xs.length = 6 := hxl
  have c1 : Try.prog.cellsOf 5 = 1 := by kernel_rfl
  have c2 : Try.prog.cellsOf 22 = 1 := by kernel_rfl
  have c3 : Try.prog.cellsOf 23 = 1 := by kernel_rfl
  have c4 : Try.prog.cellsOf 24 = 44 := by kernel_rfl
  have g : ∀ i (hi : i < 49), (cs.toList.drop i).take 1 = [cs.toList[i]'(by omega)] := fun i hi => by
    rw [List.drop_eq_getElem_cons (by omega), List.take_succ_cons, List.take_zero]
  have f0 : DataW.trod enc Try.prog w base spare held n 5 ((cs.toList.drop 0).take (Try.prog.cellsOf 5)) = xs[0]? := hf 0 _ rfl
  have f1 : DataW.trod enc Try.prog w base spare held n 5 ((cs.toList.drop 1).take (Try.prog.cellsOf 5)) = xs[1]? := hf 1 _ rfl
  have f2 : DataW.trod enc Try.prog w base spare held n 22 ((cs.toList.drop 2).take (Try.prog.cellsOf 22)) = xs[2]? := hf 2 _ rfl
  have f3 : DataW.trod enc Try.prog w base spare held n 23 ((cs.toList.drop 3).take (Try.prog.cellsOf 23)) = xs[3]? := hf 3 _ rfl
  have f4 : DataW.trod enc Try.prog w base spare held n 22 ((cs.toList.drop 4).take (Try.prog.cellsOf 22)) = xs[4]? := hf 4 _ rfl
  have f5 : DataW.trod enc Try.prog w base spare held n 24 ((cs.toList.drop 5).take (Try.prog.cellsOf 24)) = xs[5]? := hf 5 _ rfl
  rw [c1] at f0 f1
  rw [c2] at f2 f4
  rw [c3] at f3
  rw [c4] at f5
  rw [g 0 (by omega), List.getElem?_eq_getElem (by omega)] at f0
  rw [g 1 (by omega), List.getElem?_eq_getElem (by omega)] at f1
  rw [g 2 (by omega), List.getElem?_eq_getElem (by omega)] at f2
  rw [g 3 (by omega), List.getElem?_eq_getElem (by omega)] at f3
  rw [g 4 (by omega), List.getElem?_eq_getElem (by omega)] at f4
  rw [List.getElem?_eq_getElem (by omega)] at f5
  obtain ⟨a0, e0, _, w0⟩ := DataW.trod_int Try.underlying5 f0
  obtain ⟨a1, e1, _, w1⟩ := DataW.trod_int Try.underlying5 f1
  obtain ⟨a2, e2, _, w2⟩ := DataW.trod_int Try.underlying22 f2
  obtain ⟨a3, e3, _, w3⟩ := DataW.trod_int Try.underlying23 f3
  obtain ⟨a4, e4, _, w4⟩ := DataW.trod_int Try.underlying22 f4
  obtain ⟨bs, hbs, e5⟩ := open_barr Try.underlying24 c4 f5
  simp only [List.cons.injEq, and_true] at e0 e1 e2 e3 e4
  obtain ⟨k, rfl, hk⟩ := wf_u8 w0
  obtain ⟨i, rfl, hi⟩ := wf_u8 w1
  obtain ⟨p, rfl, hp⟩ := wf_u16 w2
  obtain ⟨gn, rfl, hg⟩ := wf_u64 w3
  obtain ⟨sz, rfl, hsz⟩ := wf_u16 w4
  refine ⟨⟨k, i, p, gn, sz, bs⟩, ⟨hk, hi, hp, hg, hsz, hbs⟩, ?_⟩
  rw [List.take_of_length_le (by rw [List.length_drop]; omega)] at e5
  have e := five_of (l := cs.toList) (by omega)
  rw [e0, e1, e2, e3, e4, e5] at e
  rw [← Array.toArray_toList (xs := cs), e]
  rfl
theorem openRef {cs : Array Value} {x : DataW H × List MemPlace} (h : DataW.trod enc Try.prog w base spare held fuel 44 cs.toList = some x) :
    ∃ k p g : Int, cs = #[.int .u8 k, .int .i64 p, .int .u64 g] := by
  obtain ⟨xs, n, rfl, rfl, hl, hxl, hf⟩ := DataW.trod_struct Try.underlying44 h
  have hc : Try.prog.cellsOf 44 = 3 := by kernel_rfl
  rw [hc] at hl
  have hxl' : xs.length = 3 := hxl
  have c1 : Try.prog.cellsOf 5 = 1 := by kernel_rfl
  have c2 : Try.prog.cellsOf 3 = 1 := by kernel_rfl
  have c3 : Try.prog.cellsOf 23 = 1 := by kernel_rfl
  have f0 : DataW.trod enc Try.prog w base spare held n 5 ((cs.toList.drop 0).take (Try.prog.cellsOf 5)) = xs[0]? := hf 0 _ rfl
  have f1 : DataW.trod enc Try.prog w base spare held n 3 ((cs.toList.drop 1).take (Try.prog.cellsOf 3)) = xs[1]? := hf 1 _ rfl
  have f2 : DataW.trod enc Try.prog w base spare held n 23 ((cs.toList.drop 2).take (Try.prog.cellsOf 23)) = xs[2]? := hf 2 _ rfl
  rw [c1, List.getElem?_eq_getElem (by omega)] at f0
  rw [c2, List.getElem?_eq_getElem (by omega)] at f1
  rw [c3, List.getElem?_eq_getElem (by omega)] at f2
  obtain ⟨a0, e0, _, w0⟩ := DataW.trod_int Try.underlying5 f0
  obtain ⟨a1, e1, _, w1⟩ := DataW.trod_int Try.underlying3 f1
  obtain ⟨a2, e2, _, w2⟩ := DataW.trod_int Try.underlying23 f2
  refine ⟨a0, a1, a2, ?_⟩
  rw [← Array.toArray_toList (xs := cs)]
  generalize cs.toList = l at *
  match l, hl with
  | [x, y, z], _ =>
    simp at e0 e1 e2
    rw [e0, e1, e2]
end
end Cib
