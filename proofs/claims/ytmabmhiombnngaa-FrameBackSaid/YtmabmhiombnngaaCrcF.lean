/- What the functions of package crc compute that carry a register over many noughts. -/
import Derived.Test.YtmabmhiombnngaaCrcW
import Derived.Maps.RangeWalk
set_option linter.unusedVariables false
set_option linter.unusedSimpArgs false
namespace Go.Proofs.Ytmabmhiombnngaa
open Go.RowKit Cib

/-- The cells of a square that is made of a way F. -/
def sq (F : BitVec 32 → BitVec 32) (cs : Array Value) (k : Nat) : Prop := cs.size = 32 ∧ ∀ j, j < k → cs[j]? = some (.int .u32 ((F (Crc.bit j)).toNat : Int))

theorem sq.step {F : BitVec 32 → BitVec 32} {cs : Array Value} {k : Nat} (h : sq F cs k) (hk : k < 32) : sq F (cs.setIfInBounds k (.int .u32 ((F (Crc.bit k)).toNat : Int))) (k + 1) := by
  refine ⟨by simpa using h.1, fun j hj => ?_⟩
  rw [Array.getElem?_setIfInBounds]
  by_cases e : k = j
  · subst e
    have := h.1
    rw [if_pos rfl, if_pos (by omega)]
  · rw [if_neg e]
    exact h.2 j (by omega)
theorem sq.all {F : BitVec 32 → BitVec 32} {cs : Array Value} {k : Nat} (h : sq F cs k) (hk : 32 ≤ k) : sq F cs 32 := ⟨h.1, fun j hj => h.2 j (by omega)⟩
theorem sq.one {F : BitVec 32 → BitVec 32} {cs : Array Value} {k : Nat} (h : sq F cs k) (hk : 32 ≤ k) : cs.all (·.oneCell') = true := by
  rw [Array.all_eq_true]
  intro i hi
  have h1 := h.1
  have h2 := h.2 i (by omega)
  rw [Array.getElem?_eq_getElem hi] at h2
  injection h2 with h2
  rw [h2]
  rfl
theorem sq.cells {F : BitVec 32 → BitVec 32} {cs : Array Value} (h : sq F cs 32) {w : World} {g : Nat} {t : TypeId} (hb : Blk w g t cs) :
    ∀ i, i < 32 → w.cell? ((⟨g, 0, none⟩ : Addr).add i) = some (.int .u32 ((F (Crc.bit i)).toNat : Int)) := by
  intro i hi
  have e : (⟨g, 0, none⟩ : Addr).add i = ⟨g, i, none⟩ := by
    unfold Addr.add
    split <;> simp_all
  rw [e, hb.cell i]
  exact h.2 i hi

theorem below_newRow {z cs : Array Value} {t : TypeId} {w wd w4 : World} (hb : Below w.heap.size w wd) (h : Below ((wd.alloc (.cells z t)).setRow wd.heap.size cs).heap.size ((wd.alloc (.cells z t)).setRow wd.heap.size cs) w4) : Below w.heap.size w w4 :=
  (below_setRow (hb.alloc hb.size _) hb.size cs).trans (h.mono (below_setRow (hb.alloc hb.size _) hb.size cs).size)
theorem blk_newRow {z cs cs' : Array Value} {t t' : TypeId} {g : Nat} {wd w4 : World} (hs : Blk wd g t' cs') (h : Below ((wd.alloc (.cells z t)).setRow wd.heap.size cs).heap.size ((wd.alloc (.cells z t)).setRow wd.heap.size cs) w4) : Blk w4 g t' cs' :=
  have hs3 := (hs.alloc (.cells z t)).rowFar (g' := wd.heap.size) (by have := hs.lt; omega) cs
  hs3.below h hs3.lt

end Go.Proofs.Ytmabmhiombnngaa
