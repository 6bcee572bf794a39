/- The field's functions as steps between worlds: all but the field's own memory stays. -/
import Derived.Test.YtnicfpkadiamaaaFldD
set_option linter.unusedVariables false
set_option linter.unusedSimpArgs false
set_option maxRecDepth 20000
namespace Cib
open Go Go.RowKit Go.Proofs

/-- Only the field's memory may have changed; it has its tables. -/
structure Aft (g : Nat) (w w' : World) : Prop where
  full : Full w' g
  os : w'.os = w.os
  tape : w'.tape = w.tape
  output : w'.output = w.output
  size : w'.heap.size = w.heap.size
  oth : ∀ k, k ≠ g → w'.heap[k]? = w.heap[k]?
theorem Aft.of {w : World} {g : Nat} (h : Fld w g) (n : Nat) : Aft g w ((w.setRow g (fcells 1 0 255)).drewN n) where
  full := by rcases h with h | h <;> exact (h.row _).drewN n
  os := rfl
  tape := rfl
  output := rfl
  size := setRow_size _ _ _
  oth := fun k hk => setRow_other w g k _ hk
theorem Aft.below {w w' a : World} {g B : Nat} (h : Aft g w w') (hb : Below B a w) (hg : B ≤ g) : Below B a w' :=
  ⟨h.os.trans hb.os, h.tape.trans hb.tape, h.output.trans hb.output, by rw [h.size]; exact hb.size, fun k hk => (h.oth k (by omega)).trans (hb.block k hk)⟩
theorem Aft.blk {w w' : World} {g j : Nat} (h : Aft g w w') (hj : j ≠ g) {t : TypeId} {cs : Array Value} (hb : Blk w j t cs) : Blk w' j t cs := (h.oth j hj).trans hb
theorem Aft.cell {w w' : World} {g : Nat} (h : Aft g w w') {p : Addr} (hp : p.block ≠ g) : w'.cell? p = w.cell? p := by
  have := h.oth p.block hp
  simp only [World.cell?, this]
/-- A slice that lies apart from the field reads as it did. -/
theorem Aft.rd {w w' : World} {g B : Nat} (h : Aft g w w') {A : Option Addr} {vs : List Value} (hr : Rd w B A vs) (hg : B ≤ g) : Rd w' B A vs := hr.keep fun p hp => h.cell (by omega)

theorem fldDivA (g a b : Nat) (ha : a < 256) (hb : b < 256) (w : World) (h : Fld w g) :
    Calls Try.prog 46 #[.pointer (some ⟨g, 0, none⟩), .int .u8 (a : Int), .int .u8 (b : Int)] w fun e w' => e = .returned (pairV (divA a b)) ∧ Aft g w w' := by
  refine (fldDiv g a b ha hb w h).mono ?_
  rintro e w' ⟨rfl, n, rfl⟩
  exact ⟨rfl, Aft.of h n⟩
theorem fldNewA (w : World) : Calls Try.prog 11 #[] w fun e w' => e = .returned (.pointer (some ⟨w.heap.size, 0, none⟩)) ∧ Fld w' w.heap.size ∧ w'.heap.size = w.heap.size + 1 ∧ (∀ B a, B ≤ w.heap.size → Below B a w → Below B a w') := by
  refine (fldNew w).mono ?_
  rintro e w' ⟨rfl, rfl⟩
  exact ⟨rfl, Or.inl (Blk.new _ _ _), World.size_alloc _ _, fun B a hB hb => hb.alloc hB _⟩
end Cib
