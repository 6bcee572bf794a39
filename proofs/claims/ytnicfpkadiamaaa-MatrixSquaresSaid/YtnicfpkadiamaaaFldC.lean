/- The field's own memory: its cells, and what making the tables does to them. -/
import Derived.Test.YtnicfpkadiamaaaFldO
import Derived.Test.YtnicfpkadiamaaaFldM
set_option linter.unusedVariables false
set_option linter.unusedSimpArgs false
namespace Cib
open Go Go.RowKit Go.Proofs

/-- Cells told by their number. -/
def cellsOf (n : Nat) (f : Nat → Value) : Array Value := ((List.range n).map f).toArray
theorem cellsOf_get {n : Nat} {f : Nat → Value} {k : Nat} (h : k < n) : (cellsOf n f)[k]? = some (f k) := by
  simp [cellsOf, h]
theorem cellsOf_size {n : Nat} {f : Nat → Value} : (cellsOf n f).size = n := by simp [cellsOf]
theorem cellsOf_congr {n : Nat} {f g : Nat → Value} (h : ∀ j, j < n → f j = g j) : cellsOf n f = cellsOf n g := by
  unfold cellsOf
  congr 1
  exact List.map_congr_left fun j hj => h j (List.mem_range.1 hj)
theorem cellsOf_set {n : Nat} {f : Nat → Value} (k : Nat) (v : Value) : (cellsOf n f).setIfInBounds k v = cellsOf n (fun j => if j = k then v else f j) := by
  apply Array.ext
  · simp [cellsOf]
  · intro i h1 h2
    simp only [cellsOf, Array.size_setIfInBounds, List.size_toArray, List.length_map, List.length_range] at h1 h2
    by_cases hk : k = i
    · subst hk
      simp [cellsOf]
    · have hk' : i ≠ k := fun h => hk h.symm
      simp [cellsOf, Array.getElem_setIfInBounds, hk, hk']

/-- What the table of powers holds, where so many are known. -/
def expAt (i j : Nat) : Nat := if j % 255 < i then Fld.pw (j % 255) else 0
/-- A field's cells: is it done; is it locked; how many powers are known. -/
def fcell (d s i j : Nat) : Value :=
  if j = 0 then .int .u32 (d : Int) else if j = 1 then .int .i32 (s : Int) else if j = 2 then .int .u32 0 else if j = 3 then .bool true
  else if j < 514 then .int .u8 (expAt i (j - 4) : Int) else .int .i64 (Fld.lg i (j - 514) : Int)
def fcells (d s i : Nat) : Array Value := cellsOf 770 (fcell d s i)
theorem fcells_get {d s i j : Nat} (h : j < 770) : (fcells d s i)[j]? = some (fcell d s i j) := cellsOf_get h
theorem fcells_done {d s i : Nat} : (fcells d s i)[0]? = some (.int .u32 (d : Int)) := fcells_get (by decide)
theorem fcells_lock {d s i : Nat} : (fcells d s i)[1]? = some (.int .i32 (s : Int)) := fcells_get (by decide)
theorem fcells_made {d s i : Nat} : (fcells d s i)[3]? = some (.bool true) := fcells_get (by decide)
theorem fcells_exp {d s i j : Nat} (h : j < 510) : (fcells d s i)[4 + j]? = some (.int .u8 (expAt i j : Int)) := by
  rw [fcells_get (by omega)]
  unfold fcell
  rw [if_neg (by omega), if_neg (by omega), if_neg (by omega), if_neg (by omega), if_pos (by omega), show 4 + j - 4 = j from by omega]
theorem fcells_log {d s i v : Nat} (h : v < 256) : (fcells d s i)[514 + v]? = some (.int .i64 (Fld.lg i v : Int)) := by
  rw [fcells_get (by omega)]
  unfold fcell
  rw [if_neg (by omega), if_neg (by omega), if_neg (by omega), if_neg (by omega), if_neg (by omega), show 514 + v - 514 = v from by omega]
theorem expAt_full {j : Nat} : expAt 255 j = Fld.pw j := by
  unfold expAt
  rw [if_pos (Nat.mod_lt _ (by decide)), ← Fld.pw_mod]
/-- One round of making: two powers, one logarithm. -/
theorem fcells_next {d s i : Nat} (hi : i < 255) :
    (((fcells d s i).setIfInBounds (4 + i) (.int .u8 (Fld.pw i : Int))).setIfInBounds (4 + (i + 255)) (.int .u8 (Fld.pw i : Int))).setIfInBounds (514 + Fld.pw i) (.int .i64 (i : Int)) = fcells d s (i + 1) := by
  unfold fcells
  rw [cellsOf_set, cellsOf_set, cellsOf_set]
  have hp := Fld.pw_lt i
  apply cellsOf_congr
  intro j hj
  by_cases h1 : j = 514 + Fld.pw i
  · rw [if_pos h1]
    subst h1
    unfold fcell
    rw [if_neg (by omega), if_neg (by omega), if_neg (by omega), if_neg (by omega), if_neg (by omega)]
    unfold Fld.lg
    rw [if_pos (by omega)]
  · rw [if_neg h1]
    by_cases h2 : j = 4 + (i + 255)
    · rw [if_pos h2]
      subst h2
      unfold fcell
      rw [if_neg (by omega), if_neg (by omega), if_neg (by omega), if_neg (by omega), if_pos (by omega)]
      unfold expAt
      rw [if_pos (by omega), show (4 + (i + 255) - 4) % 255 = i from by omega]
    · rw [if_neg h2]
      by_cases h3 : j = 4 + i
      · rw [if_pos h3]
        subst h3
        unfold fcell
        rw [if_neg (by omega), if_neg (by omega), if_neg (by omega), if_neg (by omega), if_pos (by omega)]
        unfold expAt
        rw [if_pos (by omega), show (4 + i - 4) % 255 = i from by omega]
      · rw [if_neg h3]
        unfold fcell
        by_cases h4 : j < 514
        · have : expAt (i + 1) (j - 4) = expAt i (j - 4) ∨ j < 4 := by
            unfold expAt
            by_cases h5 : j < 4
            · right; exact h5
            · left
              by_cases h6 : (j - 4) % 255 < i
              · rw [if_pos h6, if_pos (by omega)]
              · rw [if_neg h6, if_neg (by omega)]
          rcases this with h | h
          · rw [if_pos h4, if_pos h4, h]
          · have : j = 0 ∨ j = 1 ∨ j = 2 ∨ j = 3 := by omega
            rcases this with h | h | h | h <;> subst h <;> rfl
        · rw [if_neg (by omega), if_neg (by omega), if_neg (by omega), if_neg (by omega), if_neg h4]
          rw [if_neg (by omega), if_neg (by omega), if_neg (by omega), if_neg (by omega), if_neg h4]
          conv => rhs; unfold Fld.lg
          rw [if_neg (by omega)]
theorem fcells_set_done {d s i d' : Nat} : (fcells d s i).setIfInBounds 0 (.int .u32 (d' : Int)) = fcells d' s i := by
  unfold fcells
  rw [cellsOf_set]
  apply cellsOf_congr
  intro j hj
  unfold fcell
  by_cases h : j = 0
  · simp [h]
  · simp [h]
theorem fcells_set_lock {d s i s' : Nat} : (fcells d s i).setIfInBounds 1 (.int .i32 (s' : Int)) = fcells d s' i := by
  unfold fcells
  rw [cellsOf_set]
  apply cellsOf_congr
  intro j hj
  unfold fcell
  by_cases h : j = 1
  · simp [h]
  · simp [h]
/-- What a new field's cells are. -/
theorem fcells_new : fcells 0 0 0 = (#[.int .u32 0, .int .i32 0, .int .u32 0, .bool true] ++ Array.replicate 510 (.int .u8 0)) ++ Array.replicate 256 (.int .i64 0) := by kernel_rfl
end Cib
