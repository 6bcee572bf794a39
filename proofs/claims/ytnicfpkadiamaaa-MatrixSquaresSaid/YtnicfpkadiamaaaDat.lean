/- Rows that the call made, and their list; one row put in another's place. -/
import Derived.Test.YtnicfpkadiamaaaRowsN
set_option linter.unusedVariables false
set_option linter.unusedSimpArgs false
set_option maxRecDepth 20000
namespace Cib
open Go Go.RowKit Go.Proofs
/-- Rows that the call made, and their list, in a block of its own. -/
structure DatI (w0 : World) (g k c : Nat) (L : List RowB) (wr : World) : Prop where
  own : wr.ownsRow w0.heap.size 22 1 (.slice (some ⟨g, 0, none⟩) k c) k (L.map RowB.v)
  rows : ∀ r ∈ L, wr.ownsRow w0.heap.size 5 1 (.slice r.A r.n r.c) r.n (r.bs.map bv)
  below : Below w0.heap.size w0 wr
theorem DatI.via {w0 wr w' : World} {g k c : Nat} {L : List RowB} (h : DatI w0 g k c L wr) (hb : Below wr.heap.size wr w') : DatI w0 g k c L w' :=
  ⟨own_via h.own hb, fun r hr => own_via (h.rows r hr) hb, h.below.via hb⟩
theorem DatI.len {w0 wr : World} {g k c : Nat} {L : List RowB} (h : DatI w0 g k c L wr) : L.length = k := by simpa using own_len h.own
theorem DatI.at {w0 wr : World} {g k c : Nat} {L : List RowB} (h : DatI w0 g k c L wr) : RowsAt wr wr.heap.size L := fun r hr =>
  ⟨Rd.of_own (h.rows r hr), by simpa using own_len (h.rows r hr), (own_cap (h.rows r hr)).1, (own_cap (h.rows r hr)).2⟩
theorem DatI.cell {w0 wr : World} {g k c : Nat} {L : List RowB} (h : DatI w0 g k c L wr) {j : Nat} (hj : j < L.length) : wr.cell? ⟨g, j, none⟩ = some L[j].v ∧ wr.frozen? ⟨g, j, none⟩ = false := by
  refine ⟨?_, h.own.frozenAt j⟩
  rw [h.own.cellAt j (by rw [← h.len]; omega)]
  simp [hj]
/-- A block of rows that isn't one of bytes. -/
theorem own_apart {w : World} {b b' g : Nat} {n n' c' : Nat} {v : Value} {xs ys : List Value} (h : w.ownsRow b 5 1 v n xs) (h' : w.ownsRow b' 22 1 (.slice (some ⟨g, 0, none⟩) n' c') n' ys) : v.ownBlock ≠ some g := by
  intro he
  rcases h.2 with ⟨rfl, _⟩ | ⟨g1, cap1, cur1, rfl, _, h2, _⟩
  · simp [Value.ownBlock] at he
  · simp [Value.ownBlock] at he
    subst he
    rcases h'.2 with ⟨h0, _⟩ | ⟨g2, cap2, cur2, h0, _, h3, _⟩
    · cases h0
    · cases h0
      exact absurd (Ty.one (w := w) ⟨_, _, h3⟩ ⟨_, _, h2⟩) rowNe
/-- Another row in one's place. -/
theorem DatI.put {w0 wr : World} {g k c : Nat} {L : List RowB} (h : DatI w0 g k c L wr) {j : Nat} (hj : j < L.length) (r : RowB) (hr : wr.ownsRow w0.heap.size 5 1 (.slice r.A r.n r.c) r.n (r.bs.map bv)) (q : Nat) :
    DatI w0 g k c (L.set j r) ((wr.drewN q).setCell ⟨g, j, none⟩ r.v) := by
  refine ⟨?_, fun s hs => ?_, (h.below.via (below_drewN (Below.refl _ _) q)).setCell (p := ⟨g, j, none⟩) ?_ _⟩
  · rw [List.map_set]
    exact (World.ownsRow.stored (w := wr.drewN q) h.own j r.v).1
  · rcases List.mem_or_eq_of_mem_set hs with hs | rfl
    · exact ownsRow_setCell_other (w := wr.drewN q) (h.rows s hs) (fun he => own_apart (h.rows s hs) h.own he) _
    · exact ownsRow_setCell_other (w := wr.drewN q) hr (fun he => own_apart hr h.own he) _
  · rcases h.own.2 with ⟨h0, _⟩ | ⟨g', cap', cur', h0, h1, _, _⟩
    · cases h0
    · cases h0
      exact h1
end Cib
