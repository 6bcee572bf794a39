/- Multiples of rows by the field's tables. -/
import Derived.Test.YtoahkanaoapgpaaFldA
import Derived.Test.YtoahkanaoapgpaaBytes
set_option linter.unusedVariables false
set_option linter.unusedSimpArgs false
set_option maxRecDepth 20000
namespace Cib
open Go Go.RowKit Go.Proofs

/-- One step of the field's own: its memory has the tables, there may be new memory, all else stays. -/
structure Stp (g : Nat) (w w' : World) : Prop where
  full : Full w' g
  os : w'.os = w.os
  tape : w'.tape = w.tape
  output : w'.output = w.output
  size : w.heap.size ≤ w'.heap.size
  oth : ∀ k, k < w.heap.size → k ≠ g → w'.heap[k]? = w.heap[k]?
theorem Fld.lt {w : World} {g : Nat} (h : Fld w g) : g < w.heap.size := by rcases h with h | h <;> exact Blk.lt h
theorem Full.lt {w : World} {g : Nat} (h : Full w g) : g < w.heap.size := Blk.lt h
theorem Full.below {w w' : World} {g B : Nat} (h : Full w g) (hb : Below B w w') (hg : g < B) : Full w' g := Blk.below h hb hg
theorem Aft.stp {w w1 w2 : World} {g : Nat} (h : Aft g w w1) (hb : Below w1.heap.size w1 w2) : Stp g w w2 where
  full := h.full.below hb h.full.lt
  os := hb.os.trans h.os
  tape := hb.tape.trans h.tape
  output := hb.output.trans h.output
  size := by rw [← h.size]; exact hb.size
  oth := fun k hk hg => (hb.block k (by rw [h.size]; exact hk)).trans (h.oth k hg)
theorem Stp.below {w w' a : World} {g B : Nat} (h : Stp g w w') (hb : Below B a w) (hg : B ≤ g) (hs : B ≤ w.heap.size) : Below B a w' :=
  ⟨h.os.trans hb.os, h.tape.trans hb.tape, h.output.trans hb.output, Nat.le_trans hb.size h.size, fun k hk => (h.oth k (by omega) (by omega)).trans (hb.block k hk)⟩
/-- Where the field has its tables already, every slice reads on. -/
theorem Aft.rdFull {w w' : World} {g B : Nat} (h : Aft g w w') (hf : Full w g) {A : Option Addr} {vs : List Value} (hr : Rd w B A vs) : Rd w' B A vs := hr.keep fun p hp => by
  by_cases hk : p.block = g
  · have h1 : w'.heap[p.block]? = w.heap[p.block]? := by
      rw [hk]
      exact Eq.trans (b := some _) h.full hf.symm
    simp only [World.cell?, h1]
  · exact h.cell hk
theorem fldReadyA (g : Nat) (w : World) (hb : Fld w g) :
    Calls Try.prog 53 #[.pointer (some ⟨g, 0, none⟩)] w fun e w' => e = .returned (.bool true) ∧ Aft g w w' := by
  refine (fldReady g w hb).mono ?_
  rintro e w' ⟨rfl, n, rfl⟩
  exact ⟨rfl, Aft.of hb n⟩
/-- A multiple of a row. -/
def scB (c : Nat) (row : List UInt8) : List UInt8 := row.map fun x => UInt8.ofNat (Fld.gmul c x.toNat)
theorem scB_length (c : Nat) (row : List UInt8) : (scB c row).length = row.length := by simp [scB]
theorem scB_toNat {c : Nat} (hc : c < 256) (x : UInt8) : (UInt8.ofNat (Fld.gmul c x.toNat)).toNat = Fld.gmul c x.toNat := by
  rw [UInt8.toNat_ofNat']
  exact Nat.mod_eq_of_lt (Fld.gmul_lt hc)
/-- New bytes, from a step of the field's. -/
def NewF (g : Nat) (bs : List UInt8) (w : World) (e : Ending) (w' : World) : Prop :=
  ∃ A n c, e = .returned (.slice A n c) ∧ bs.length = n ∧ w'.ownsRow w.heap.size 5 1 (.slice A n c) n (bs.map bv) ∧ Stp g w w'

end Cib
