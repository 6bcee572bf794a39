/- Rows that the program writes out. -/
import Derived.Test.YtmfilmkdaokbbaaRowsN
set_option linter.unusedVariables false
set_option linter.unusedSimpArgs false
set_option maxRecDepth 40000
namespace Cib
open Go Go.RowKit Go.Proofs
theorem one_row {L : List RowB} {D : List UInt8} (h : L.map (·.bs) = [D]) : ∃ r, L = [r] ∧ r.bs = D := by
  rcases L with _ | ⟨r, _ | ⟨s, l⟩⟩
  · simp at h
  · simp at h
    exact ⟨r, rfl, h⟩
  · simp at h
/-- One row that the program writes out. -/
theorem lit1 (w : World) (cs : Array Value) (bs : List UInt8) (n : Nat) (h : cs.toList = bs.map bv) (hn : bs.length = n) (hm : n ≤ maxLen) :
    Rd ((w.alloc (.cells cs 5)).alloc (.cells #[.slice (some ⟨w.heap.size, 0, none⟩) n n] 22)) (w.heap.size + 1 + 1) (some ⟨w.heap.size + 1, 0, none⟩) ([(⟨some ⟨w.heap.size, 0, none⟩, n, n, bs⟩ : RowB)].map RowB.v) ∧
    RowsAt ((w.alloc (.cells cs 5)).alloc (.cells #[.slice (some ⟨w.heap.size, 0, none⟩) n n] 22)) (w.heap.size + 1 + 1) [⟨some ⟨w.heap.size, 0, none⟩, n, n, bs⟩] ∧
    Below w.heap.size w ((w.alloc (.cells cs 5)).alloc (.cells #[.slice (some ⟨w.heap.size, 0, none⟩) n n] 22)) := by
  refine ⟨?_, RowsAt.cons ⟨((Rd.new w cs 5 (0, 0) h).alloc (by simp) _).more (by simp), hn, Nat.le_refl _, hm⟩ RowsAt.nil, ((Below.refl _ _).alloc (Nat.le_refl _) _).alloc (by simp) _⟩
  have := Rd.new (w.alloc (.cells cs 5)) #[.slice (some ⟨w.heap.size, 0, none⟩) n n] 22 (0, 0) rfl
  rw [World.size_alloc] at this
  exact this
/-- Two rows that the program writes out. -/
theorem lit2 (w : World) (cs ds : Array Value) (bs es : List UInt8) (n m : Nat) (h : cs.toList = bs.map bv) (hn : bs.length = n) (hm : n ≤ maxLen) (h' : ds.toList = es.map bv) (hn' : es.length = m) (hm' : m ≤ maxLen) :
    Rd (((w.alloc (.cells cs 5)).alloc (.cells ds 5)).alloc (.cells #[.slice (some ⟨w.heap.size, 0, none⟩) n n, .slice (some ⟨w.heap.size + 1, 0, none⟩) m m] 22)) (w.heap.size + 1 + 1 + 1) (some ⟨w.heap.size + 1 + 1, 0, none⟩) ([(⟨some ⟨w.heap.size, 0, none⟩, n, n, bs⟩ : RowB), ⟨some ⟨w.heap.size + 1, 0, none⟩, m, m, es⟩].map RowB.v) ∧
    RowsAt (((w.alloc (.cells cs 5)).alloc (.cells ds 5)).alloc (.cells #[.slice (some ⟨w.heap.size, 0, none⟩) n n, .slice (some ⟨w.heap.size + 1, 0, none⟩) m m] 22)) (w.heap.size + 1 + 1 + 1) [⟨some ⟨w.heap.size, 0, none⟩, n, n, bs⟩, ⟨some ⟨w.heap.size + 1, 0, none⟩, m, m, es⟩] ∧
    Below w.heap.size w (((w.alloc (.cells cs 5)).alloc (.cells ds 5)).alloc (.cells #[.slice (some ⟨w.heap.size, 0, none⟩) n n, .slice (some ⟨w.heap.size + 1, 0, none⟩) m m] 22)) := by
  have h2 := Rd.new (w.alloc (.cells cs 5)) ds 5 (0, 0) h'
  rw [World.size_alloc] at h2
  have h3 := Rd.new ((w.alloc (.cells cs 5)).alloc (.cells ds 5)) #[.slice (some ⟨w.heap.size, 0, none⟩) n n, .slice (some ⟨w.heap.size + 1, 0, none⟩) m m] 22 (0, 0) rfl
  rw [World.size_alloc, World.size_alloc] at h3
  refine ⟨h3, RowsAt.cons ⟨(((Rd.new w cs 5 (0, 0) h).alloc (by simp) _).alloc (by simp) _).more (by omega), hn, Nat.le_refl _, hm⟩ (RowsAt.cons ⟨(h2.alloc (by simp) _).more (by omega), hn', Nat.le_refl _, hm'⟩ RowsAt.nil), (((Below.refl _ _).alloc (Nat.le_refl _) _).alloc (by simp) _).alloc (by simp; omega) _⟩
end Cib
