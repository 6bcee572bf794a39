/- Rows of bytes that came in, opened. -/
import Derived.Test.YtmabmhiombnngaaOpen
import Derived.Test.YtmabmhiombnngaaRowsB
set_option linter.unusedVariables false
set_option linter.unusedSimpArgs false
set_option maxRecDepth 20000
namespace Cib
open Go Go.RowKit Go.ChangeShapes Go.WideShapes Go.Deep Go.Proofs
section
variable {H : Type} {enc : TypeId × Value → H} {w : World} {held : Bool} {fuel : Nat}
theorem open_row1 {cs : List Value} {x : DataW H × List MemPlace} (h : DataW.trod enc Try.prog w 0 (fun _ => true) held fuel 26 cs = some x) : ∃ r : RowB, cs = [r.v] ∧ r.At w w.heap.size := by
  rcases open_ints Try.underlying26 Try.underlying5 (by kernel_rfl) h with ⟨rfl, _⟩ | ⟨a, l, c, zs, rfl, _, hl, hm, hz, _, hcell, hwz⟩
  · exact ⟨⟨none, 0, 0, []⟩, rfl, ⟨Rd.nil _ _ _, rfl, Nat.le_refl _, Nat.zero_le _⟩⟩
  · obtain ⟨bs, h1, h2, h3, h4⟩ := row_bytes (w := w) (a := some a) (len := l) (cap := c) (zs := zs) (.inr ⟨_, rfl, hl, hm, by simpa using hz, hcell, hwz⟩)
    exact ⟨⟨some a, l, c, bs⟩, rfl, ⟨h4, h1, h2, h3⟩⟩
theorem open_rowsB {A : Option Addr} {n c : Nat} {x : DataW H × List MemPlace} (h : DataW.trod enc Try.prog w 0 (fun _ => true) held fuel 33 [.slice A n c] = some x) :
    ∃ L : List RowB, L.length = n ∧ n ≤ c ∧ c ≤ maxLen ∧ Rd w w.heap.size A (L.map RowB.v) ∧ RowsAt w w.heap.size L := by
  rcases open_slice Try.underlying33 h with h0 | ⟨a, len, cap, m, k, D, Pl, hcs, hb, hl, hm, hmm, hx, hi⟩
  · have h1 := h0.1
    simp only [List.cons.injEq, Value.slice.injEq, and_true] at h1
    obtain ⟨rfl, rfl, rfl⟩ := h1
    exact ⟨[], rfl, Nat.le_refl _, Nat.zero_le _, Rd.nil _ _ _, RowsAt.nil⟩
  · simp only [List.cons.injEq, Value.slice.injEq, and_true] at hcs
    obtain ⟨rfl, rfl, rfl⟩ := hcs
    rw [if_pos rfl] at hmm
    have hC : Try.prog.cellsOf 26 = 1 := by kernel_rfl
    have hrow : ∀ i, i < n → ∃ r : RowB, w.cell? (a.add i) = some r.v ∧ r.At w w.heap.size := by
      intro i hin
      obtain ⟨cs', hc, ht'⟩ := hi i (by omega)
      rw [hC, Nat.mul_one] at hc
      obtain ⟨r, rfl, hr⟩ := open_row1 ht'
      obtain ⟨_, hcl, hat⟩ := World.cells?_some hc
      have h1 := hat (i := 0) (by omega)
      have e0 : (a.add i).add 0 = a.add i := addr_add_zero _
      refine ⟨r, ?_, hr⟩
      rw [← e0]
      simpa using h1
    have hall : ∀ k, k ≤ n → ∃ L : List RowB, L.length = k ∧ (∀ j (hj : j < L.length), w.cell? (a.add j) = some L[j].v) ∧ RowsAt w w.heap.size L := by
      intro k
      induction k with
      | zero => exact fun _ => ⟨[], rfl, fun j hj => (by simp at hj), RowsAt.nil⟩
      | succ k ih =>
        intro hk
        obtain ⟨L, h1, h2, h3⟩ := ih (by omega)
        obtain ⟨r, hr1, hr2⟩ := hrow k (by omega)
        refine ⟨L ++ [r], by simp [h1], fun j hj => ?_, h3.append (RowsAt.cons hr2 RowsAt.nil)⟩
        by_cases hjk : j < L.length
        · rw [List.getElem_append_left hjk]
          exact h2 j hjk
        · have : j = k := by simp at hj; omega
          subst this
          rw [List.getElem_append_right (by omega)]
          simp only [h1, Nat.sub_self, List.getElem_cons_zero]
          exact hr1
    obtain ⟨L, h1, h2, h3⟩ := hall n (Nat.le_refl _)
    refine ⟨L, h1, hl, hm, fun hn => ⟨a, rfl, ?_, fun j hj => ?_⟩, h3⟩
    · have h0 : 0 < L.length := by
        rcases Nat.eq_zero_or_pos L.length with e0 | e0
        · exact absurd (by rw [List.eq_nil_of_length_eq_zero e0]; rfl) hn
        · exact e0
      have := block_lt_of_cell (h2 0 h0)
      rwa [addr_add_block] at this
    · rw [List.length_map] at hj
      rw [List.getElem_map]
      exact h2 j hj
end
end Cib
