/- The field's functions where it has its tables already: nothing that there was changes. -/
import Derived.Test.YtnicfpkadiamaaaFldG
set_option linter.unusedVariables false
set_option linter.unusedSimpArgs false
set_option maxRecDepth 20000
namespace Cib
open Go Go.RowKit Go.Proofs

theorem Stp.bel {w w' : World} {g : Nat} (h : Stp g w w') (hf : Full w g) : Below w.heap.size w w' :=
  ⟨h.os, h.tape, h.output, h.size, fun k hk => by
    by_cases hkg : k = g
    · subst hkg
      exact Eq.trans (b := some _) h.full hf.symm
    · exact h.oth k hk hkg⟩
theorem Aft.bel {w w' : World} {g : Nat} (h : Aft g w w') (hf : Full w g) : Below w.heap.size w w' :=
  ⟨h.os, h.tape, h.output, by rw [h.size]; exact Nat.le_refl _, fun k hk => by
    by_cases hkg : k = g
    · subst hkg
      exact Eq.trans (b := some _) h.full hf.symm
    · exact h.oth k hkg⟩
theorem Full.on {w w' : World} {g : Nat} (h : Full w g) (hb : Below w.heap.size w w') : Full w' g := h.below hb h.lt
theorem NewF.bel {g : Nat} {bs : List UInt8} {w : World} {e : Ending} {w' : World} (h : NewF g bs w e w') (hf : Full w g) : NewB bs w e w' := by
  obtain ⟨A, n, c, h1, h2, h3, h4⟩ := h
  exact ⟨A, n, c, h1, h2, h3, h4.bel hf⟩
theorem fldDivF (g a b : Nat) (ha : a < 256) (hb : b < 256) (w : World) (h : Full w g) :
    Calls Try.prog 46 #[.pointer (some ⟨g, 0, none⟩), .int .u8 (a : Int), .int .u8 (b : Int)] w fun e w' => e = .returned (pairV (divA a b)) ∧ Below w.heap.size w w' :=
  (fldDivA g a b ha hb w h.fld).mono fun _ _ ⟨he, ha⟩ => ⟨he, ha.bel h⟩
theorem fldScaleF (g c : Nat) (hc : c < 256) (A : Option Addr) (cap : Nat) (row : List UInt8) (w : World) (h : Full w g) (B : Nat) (hr : Rd w B A (row.map bv)) {len : Nat} (hn : row.length = len) (hB : B ≤ w.heap.size) (hl : len ≤ 1000000000) :
    Calls Try.prog 51 #[.pointer (some ⟨g, 0, none⟩), .int .u8 (c : Int), .slice A len cap] w (NewB (scB c row) w) :=
  (fldScale g c hc A cap row w h.fld B (fun _ ha => ha.rdFull h hr) hn hB hl).mono fun _ _ hx => hx.bel h
theorem fldFoldF (g c : Nat) (hc : c < 256) (A1 : Option Addr) (c1 : Nat) (row : List UInt8) (A2 : Option Addr) (c2 : Nat) (into : List UInt8) (w : World) (h : Full w g) (B1 B2 : Nat) (hra : Rd w B1 A1 (row.map bv)) (hrb : Rd w B2 A2 (into.map bv)) {n1 n2 : Nat} (hn1 : row.length = n1) (hn2 : into.length = n2) (hB1 : B1 ≤ w.heap.size) (hB2 : B2 ≤ w.heap.size) (hl1 : n1 ≤ 1000000000) (hl2 : n2 ≤ 1000000000) (hc1 : n1 ≤ c1) :
    Calls Try.prog 40 #[.pointer (some ⟨g, 0, none⟩), .int .u8 (c : Int), .slice A1 n1 c1, .slice A2 n2 c2] w (NewB (foB c row into) w) :=
  (fldFold g c hc A1 c1 row A2 c2 into w h.fld B1 B2 (fun _ ha => ha.rdFull h hra) (fun _ ha => ha.rdFull h hrb) hn1 hn2 hB1 hB2 hl1 hl2 hc1).mono fun _ _ hx => hx.bel h
/-! What becomes of sums of multiples. -/
theorem scB_one (row : List UInt8) : scB 1 row = row := by
  unfold scB
  apply List.ext_getElem
  · simp
  · intro i h1 h2
    rw [List.getElem_map, Fld.one_mul_all _ (UInt8.toNat_lt _), UInt8.ofNat_toNat]
theorem scB_get (c : Nat) (row : List UInt8) {i : Nat} (h : i < row.length) {h' : i < (scB c row).length} : (scB c row)[i] = UInt8.ofNat (Fld.gmul c row[i].toNat) := by simp [scB]
theorem foB_scB {a b : Nat} (ha : a < 256) (hb : b < 256) (row : List UInt8) : foB b row (scB a row) = scB (a ^^^ b) row := by
  apply List.ext_getElem
  · rw [foB_length, scB_length, scB_length]
  · intro i h1 h2
    have h3 : i < row.length := by rw [scB_length] at h2; exact h2
    rw [foB_get (by rw [scB_length]; exact h3), List.getD_eq_getElem?_getD, List.getElem?_eq_getElem h3, Option.getD_some]
    rw [scB_get _ _ h3, scB_get _ _ h3, UInt8.toNat_ofNat', Nat.mod_eq_of_lt (by have := Fld.gmul_lt (b := row[i].toNat) ha; omega), Fld.xor_mul ha hb (UInt8.toNat_lt _)]
theorem scB_zero (row : List UInt8) : scB 0 row = List.replicate row.length 0 := by
  apply List.ext_getElem
  · simp [scB]
  · intro i h1 h2
    simp [scB, Fld.zero_mul]
end Cib
