/- What came in, opened: bytes, arrays of bytes. -/
import Derived.Test.YtmabmhiombnngaaRowsK
import Derived.Test.YtmabmhiombnngaaReg
set_option linter.unusedVariables false
set_option linter.unusedSimpArgs false
set_option maxRecDepth 20000
namespace Cib
open Go Go.RowKit Go.ChangeShapes Go.WideShapes Go.Deep Go.Proofs
section
variable {H : Type} {enc : TypeId × Value → H} {w : World} {base : Nat} {spare : Nat → Bool} {held : Bool} {fuel : Nat}
/-- A byte's value. -/
theorem byte_of_wf {n : Int} (h : (Lit.int .u8 n).wf = true) : ∃ b : UInt8, Value.int .u8 n = bv b := by
  obtain ⟨m, rfl, hm⟩ := wf_u8 h
  obtain ⟨z, _, hz⟩ := byte_mk hm
  exact ⟨z, by unfold bv; rw [hz]⟩
theorem open_bytes {A : Option Addr} {n c : Nat} {x : DataW H × List MemPlace} (h : DataW.trod enc Try.prog w 0 (fun _ => true) held fuel 26 [.slice A n c] = some x) :
    ∃ bs : List UInt8, bs.length = n ∧ n ≤ c ∧ c ≤ maxLen ∧ Rd w w.heap.size A (bs.map bv) := by
  rcases open_ints Try.underlying26 Try.underlying5 (by kernel_rfl) h with ⟨hcs, _⟩ | ⟨a, l, c', zs, hcs, _, hl, hm, hz, _, hcell, hwz⟩
  · simp at hcs
    obtain ⟨rfl, rfl, rfl⟩ := hcs
    exact ⟨[], rfl, Nat.le_refl _, Nat.zero_le _, Rd.nil _ _ _⟩
  · simp at hcs
    obtain ⟨rfl, rfl, rfl⟩ := hcs
    exact row_bytes (.inr ⟨_, rfl, hl, hm, by simpa using hz, hcell, hwz⟩)
/-- An array of bytes. -/
theorem open_barr {t n : Nat} {cs : List Value} {x : DataW H × List MemPlace} (ht : Try.prog.underlying t = some (.array n 5)) (hc : Try.prog.cellsOf t = n) (h : DataW.trod enc Try.prog w base spare held fuel t cs = some x) :
    ∃ bs : List UInt8, bs.length = n ∧ cs = bs.map bv := by
  obtain ⟨xs, m, rfl, rfl, hl, hxl, hi⟩ := DataW.trod_array ht h
  rw [hc] at hl
  have h1 : Try.prog.cellsOf 5 = 1 := by kernel_rfl
  rw [h1] at hi
  have hall : ∀ v ∈ cs, ∃ b, v = bv b := by
    intro v hv
    obtain ⟨i, hi', rfl⟩ := List.mem_iff_getElem.1 hv
    have h2 := hi i (by omega)
    rw [Nat.mul_one, List.drop_eq_getElem_cons hi', List.take_succ_cons, List.take_zero, List.getElem?_eq_getElem (by omega)] at h2
    obtain ⟨a, ha, _, wa⟩ := DataW.trod_int Try.underlying5 h2
    simp only [List.cons.injEq, and_true] at ha
    rw [ha]
    exact byte_of_wf wa
  obtain ⟨bs, rfl⟩ := list_map bv cs hall
  exact ⟨bs, by simpa using hl, rfl⟩
end
end Cib
