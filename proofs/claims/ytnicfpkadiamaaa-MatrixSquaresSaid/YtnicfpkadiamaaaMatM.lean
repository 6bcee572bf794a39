/- Products of matrices, as plain Lean on lists. -/
import Derived.Test.YtnicfpkadiamaaaMatP
import Derived.Test.YtnicfpkadiamaaaMatF
set_option linter.unusedVariables false
set_option linter.unusedSimpArgs false
namespace Lin
open Cib (tabN scB foB)
theorem fl_tab {cols p i k : Nat} {val : Nat → Nat → UInt8} (hk : k < cols) (h : i * cols + k < p) : fl cols (tabN cols val p) i k = val i k := by
  have h' : i * cols + k < (tabN cols val p).length := by rw [Cib.tabN_length]; exact h
  unfold fl
  rw [List.getD_eq_getElem?_getD, List.getElem?_eq_getElem h', Option.getD_some, Cib.tabN_get]
  have h1 : (i * cols + k) / cols = i := by
    rw [Nat.mul_comm, Nat.mul_add_div (by omega)]
    simp [Nat.div_eq_of_lt hk]
  have h2 : (i * cols + k) % cols = k := by
    rw [Nat.mul_comm, Nat.mul_add_mod]
    exact Nat.mod_eq_of_lt hk
  rw [h1, h2]
theorem lt_of_rc {r c i k : Nat} (hi : i < r) (hk : k < c) : i * c + k < r * c := by
  have : (i + 1) * c ≤ r * c := Nat.mul_le_mul_right c hi
  rw [Nat.succ_mul] at this
  omega
theorem fl_tabRC {r c i k : Nat} {val : Nat → Nat → UInt8} (hi : i < r) (hk : k < c) : fl c (tabN c val (r * c)) i k = val i k := fl_tab hk (lt_of_rc hi hk)
theorem fl_get {c i k : Nat} {A : List UInt8} (h : i * c + k < A.length) : fl c A i k = A[i * c + k] := by
  unfold fl
  rw [List.getD_eq_getElem?_getD, List.getElem?_eq_getElem h]
  rfl
/-- A list of r times c numbers is told by its rows and columns. -/
theorem tab_of {r c : Nat} {A : List UInt8} (hc : 0 < c) (hA : A.length = r * c) {val : Nat → Nat → UInt8} (h : ∀ i k, i < r → k < c → fl c A i k = val i k) : A = tabN c val (r * c) := by
  apply List.ext_getElem
  · rw [Cib.tabN_length, hA]
  · intro q h1 h2
    rw [Cib.tabN_get]
    have hq : q / c < r := by
      rw [Nat.div_lt_iff_lt_mul hc]
      omega
    have hm := Nat.mod_lt q hc
    have e : q / c * c + q % c = q := by rw [Nat.mul_comm]; exact Nat.div_add_mod q c
    have hx : q / c * c + q % c < A.length := by rw [e]; exact h1
    rw [← h _ _ hq hm, fl_get hx]
    congr 1
    exact e.symm
theorem tab_congr {r c : Nat} (hc : 0 < c) {val val' : Nat → Nat → UInt8} (h : ∀ i k, i < r → k < c → val i k = val' i k) : tabN c val (r * c) = tabN c val' (r * c) :=
  tab_of hc (Cib.tabN_length _ _ _) fun i k hi hk => by rw [fl_tabRC hi hk, h i k hi hk]
/-- The product. -/
def mulL (ra ca cb : Nat) (A B : List UInt8) : List UInt8 := tabN cb (mm ca (fl ca A) (fl cb B)) (ra * cb)
theorem mulL_length (ra ca cb : Nat) (A B : List UInt8) : (mulL ra ca cb A B).length = ra * cb := Cib.tabN_length _ _ _
theorem mulL_fl {ra ca cb i k : Nat} {A B : List UInt8} (hi : i < ra) (hk : k < cb) : fl cb (mulL ra ca cb A B) i k = mm ca (fl ca A) (fl cb B) i k := fl_tabRC hi hk
/-- A row of a product, of which so many terms were summed. -/
def sumL (ca cb : Nat) (A B : List UInt8) (i t : Nat) : List UInt8 := (List.range cb).map fun k => sm t (fun j => gm (fl ca A i j) (fl cb B j k))
theorem sumL_length (ca cb : Nat) (A B : List UInt8) (i t : Nat) : (sumL ca cb A B i t).length = cb := by simp [sumL]
theorem sumL_zero (ca cb : Nat) (A B : List UInt8) (i : Nat) : sumL ca cb A B i 0 = List.replicate cb 0 := by
  unfold sumL
  apply List.ext_getElem
  · simp
  · intro q h1 h2
    simp [sm]
theorem sumL_next {rb ca cb i t : Nat} {A B : List UInt8} (hB : B.length = rb * cb) (ht : t < rb) : foB (fl ca A i t).toNat (rowOf cb B t) (sumL ca cb A B i t) = sumL ca cb A B i (t + 1) := by
  apply List.ext_getElem
  · rw [Cib.foB_length, sumL_length, sumL_length]
  · intro q h1 h2
    rw [sumL_length] at h2
    have e := foB_ent (fl ca A i t) (rowOf cb B t) (sumL ca cb A B i t) (k := q) (by rw [sumL_length]; exact h2)
    rw [List.getD_eq_getElem?_getD, List.getElem?_eq_getElem h1, Option.getD_some] at e
    rw [e, rowOf_get h2]
    simp only [sumL, List.getElem_map, List.getElem_range, List.getD_eq_getElem?_getD]
    rw [List.getElem?_map, List.getElem?_range h2]
    rfl
theorem tabN_row (cols : Nat) (val : Nat → Nat → UInt8) (i : Nat) : tabN cols val (i * cols) ++ (List.range cols).map (val i) = tabN cols val ((i + 1) * cols) := by
  have : ∀ j, j ≤ cols → tabN cols val (i * cols) ++ (List.range j).map (val i) = tabN cols val (i * cols + j) := by
    intro j
    induction j with
    | zero => intro _; simp
    | succ j ih =>
      intro hj
      rw [Cib.tabN_next cols val (by omega), ← ih (by omega), List.range_succ, List.map_append, List.append_assoc]
      rfl
  rw [this cols (Nat.le_refl _), Nat.succ_mul]
theorem mulL_row (ra ca cb : Nat) (A B : List UInt8) (i : Nat) : tabN cb (mm ca (fl ca A) (fl cb B)) (i * cb) ++ sumL ca cb A B i ca = tabN cb (mm ca (fl ca A) (fl cb B)) ((i + 1) * cb) := tabN_row cb _ i
/-- The identity. -/
def oneL (n : Nat) : List UInt8 := tabN n dl (n * n)
theorem oneL_fl {n i k : Nat} (hi : i < n) (hk : k < n) : fl n (oneL n) i k = dl i k := fl_tabRC hi hk
theorem mulL_one {n : Nat} (hn : 0 < n) {A X : List UInt8} (h : ∀ i k, i < n → k < n → mm n (fl n A) (fl n X) i k = dl i k) : mulL n n n A X = oneL n := tab_congr hn h
/-- Rows for columns. -/
def turnL (r c : Nat) (A : List UInt8) : List UInt8 := tabN r (fun j i => fl c A i j) (c * r)
theorem turnL_fl {r c i k : Nat} {A : List UInt8} (hi : i < c) (hk : k < r) : fl r (turnL r c A) i k = fl c A k i := fl_tabRC hi hk
theorem turnL_length (r c : Nat) (A : List UInt8) : (turnL r c A).length = c * r := Cib.tabN_length _ _ _
theorem turn_rank {r c : Nat} {A : List UInt8} {n m : Nat} (h : Rk r c (fl c A) n) (g : Rk c r (fl r (turnL r c A)) m) : n = m :=
  h.turn (g.congr fun i k hi hk => turnL_fl hi hk)
/-- Some rows. -/
def pickL (c : Nat) (A : List UInt8) (rows : List Nat) : List UInt8 := tabN c (fun i j => fl c A (rows.getD i 0) j) (rows.length * c)
theorem mulL_assoc {ra ca cb cc : Nat} (hc : 0 < cc) {A B D : List UInt8} : mulL ra cb cc (mulL ra ca cb A B) D = mulL ra ca cc A (mulL ca cb cc B D) := by
  refine tab_congr hc fun i k hi hk => ?_
  rw [mm_congr (n := cb) (A' := mm ca (fl ca A) (fl cb B)) (B' := fl cc D) (fun j hj => mulL_fl hi hj) (fun j _ => rfl)]
  rw [mm_congr (n := ca) (A' := fl ca A) (B' := mm cb (fl cb B) (fl cc D)) (fun j _ => rfl) (fun j hj => mulL_fl hj hk)]
  exact mm_assoc _ _ _ _ _ _ _
end Lin
