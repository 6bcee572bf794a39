/- Matrices as lists of rows: elimination and the document's rank, as plain Lean. -/
import Derived.Test.YtnicfpkadiamaaaLinE
import Derived.Test.YtnicfpkadiamaaaFldK
set_option linter.unusedVariables false
set_option linter.unusedSimpArgs false
namespace Lin
open Cib (scB foB)
/-- The number in row i, column k. -/
def ent (L : List (List UInt8)) (i k : Nat) : UInt8 := (L.getD i []).getD k 0
/-- The number in row i, column k of a matrix of c columns, row by row. -/
def fl (c : Nat) (A : List UInt8) (i k : Nat) : UInt8 := A.getD (i * c + k) 0
theorem gmul_gm (a b : UInt8) : UInt8.ofNat (Fld.gmul a.toNat b.toNat) = gm a b := rfl
theorem scB_ent (c : UInt8) (row : List UInt8) (k : Nat) : (scB c.toNat row).getD k 0 = gm c (row.getD k 0) := by
  by_cases h : k < row.length
  · have h' : k < (scB c.toNat row).length := by rw [Cib.scB_length]; exact h
    rw [List.getD_eq_getElem?_getD, List.getElem?_eq_getElem h', List.getD_eq_getElem?_getD, List.getElem?_eq_getElem h]
    simp only [Option.getD_some, scB, List.getElem_map]
    rfl
  · have h' : ¬ k < (scB c.toNat row).length := by rw [Cib.scB_length]; exact h
    rw [List.getD_eq_getElem?_getD, List.getElem?_eq_none (by omega), List.getD_eq_getElem?_getD, List.getElem?_eq_none (by omega)]
    simp [gm_zero]
theorem foB_ent (c : UInt8) (row into : List UInt8) {k : Nat} (h : k < into.length) : (foB c.toNat row into).getD k 0 = into.getD k 0 ^^^ gm c (row.getD k 0) := by
  have h' : k < (foB c.toNat row into).length := by rw [Cib.foB_length]; exact h
  rw [List.getD_eq_getElem?_getD, List.getElem?_eq_getElem h', List.getD_eq_getElem?_getD (l := into), List.getElem?_eq_getElem h]
  simp only [Option.getD_some]
  rw [Cib.foB_get h h']
  apply ext8
  rw [UInt8.toNat_xor, gm_toNat, Cib.foB_toNat c.toNat_lt]
theorem foB_zero (row into : List UInt8) : foB 0 row into = into := by
  unfold foB
  apply List.ext_getElem
  · simp
  · intro i h1 h2
    simp [Fld.zero_mul]
theorem getD_at {L : List (List UInt8)} {i : Nat} (hi : i < L.length) : L.getD i [] = L[i] := by
  rw [List.getD_eq_getElem?_getD, List.getElem?_eq_getElem hi]
  rfl
/-- A row in the one's place that makes its column's number 1. -/
def headRow (L : List (List UInt8)) (at_ col : Nat) : List UInt8 := scB (Fld.gdiv 1 (ent L at_ col).toNat) (L.getD at_ [])
/-- clean, behind so many rows. -/
def cleanL (L : List (List UInt8)) (at_ col k : Nat) : List (List UInt8) :=
  (L.set at_ (headRow L at_ col)).mapIdx fun i r => if i < k ∧ i ≠ at_ then foB (r.getD col 0).toNat (headRow L at_ col) r else r
theorem cleanL_length (L : List (List UInt8)) (at_ col k : Nat) : (cleanL L at_ col k).length = L.length := by simp [cleanL]
theorem cleanL_zero (L : List (List UInt8)) (at_ col : Nat) : cleanL L at_ col 0 = L.set at_ (headRow L at_ col) := by
  unfold cleanL
  apply List.ext_getElem
  · rw [List.length_mapIdx]
  · intro i h1 h2
    rw [List.getElem_mapIdx, if_neg (by omega)]
theorem cleanL_get {L : List (List UInt8)} {at_ col k i : Nat} (h : i < L.length) (h' : i < (cleanL L at_ col k).length) :
    (cleanL L at_ col k)[i] = if i = at_ then headRow L at_ col else if i < k then foB (L[i].getD col 0).toNat (headRow L at_ col) L[i] else L[i] := by
  have e0 : (cleanL L at_ col k)[i] = if i < k ∧ i ≠ at_ then foB (((L.set at_ (headRow L at_ col))[i]'(by simpa using h)).getD col 0).toNat (headRow L at_ col) ((L.set at_ (headRow L at_ col))[i]'(by simpa using h)) else (L.set at_ (headRow L at_ col))[i]'(by simpa using h) := List.getElem_mapIdx
  rw [e0, List.getElem_set]
  by_cases e : at_ = i
  · subst e
    rw [if_neg (by omega), if_pos rfl, if_pos rfl]
  · rw [if_neg e, if_neg (Ne.symm e)]
    by_cases hk : i < k
    · rw [if_pos ⟨hk, Ne.symm e⟩, if_pos hk]
    · rw [if_neg (fun h => hk h.1), if_neg hk]
theorem cleanL_next {L : List (List UInt8)} {at_ col k : Nat} (h : k < L.length) (hk : k ≠ at_) : cleanL L at_ col (k + 1) = (cleanL L at_ col k).set k (foB (L[k].getD col 0).toNat (headRow L at_ col) L[k]) := by
  apply List.ext_getElem
  · rw [List.length_set, cleanL_length, cleanL_length]
  · intro i h1 h2
    rw [cleanL_length] at h1
    rw [cleanL_get h1, List.getElem_set]
    by_cases e : k = i
    · subst e
      rw [if_neg hk, if_pos (by omega), if_pos rfl]
    · rw [if_neg e, cleanL_get h1]
      by_cases e2 : i = at_
      · rw [if_pos e2, if_pos e2]
      · rw [if_neg e2, if_neg e2]
        by_cases e3 : i < k
        · rw [if_pos (by omega), if_pos e3]
        · rw [if_neg (by omega), if_neg e3]
theorem cleanL_stay {L : List (List UInt8)} {at_ col k : Nat} (hk : k = at_ ∨ ((L.getD k []).getD col 0) = 0) : cleanL L at_ col (k + 1) = cleanL L at_ col k := by
  apply List.ext_getElem
  · rw [cleanL_length, cleanL_length]
  · intro i h1 h2
    rw [cleanL_length] at h1
    rw [cleanL_get h1, cleanL_get h1]
    by_cases e2 : i = at_
    · rw [if_pos e2, if_pos e2]
    · rw [if_neg e2, if_neg e2]
      by_cases e3 : i < k
      · rw [if_pos (by omega), if_pos e3]
      · by_cases e4 : i = k
        · subst e4
          rw [if_pos (by omega), if_neg e3]
          rcases hk with hk | hk
          · exact absurd hk e2
          · have : L[i].getD col 0 = 0 := by
              rw [getD_at (L := L) (by assumption)] at hk
              exact hk
            rw [this]
            exact foB_zero _ _
        · rw [if_neg (by omega), if_neg e3]
/-- All rows of one length. -/
def Wid (W : Nat) (L : List (List UInt8)) : Prop := ∀ r ∈ L, r.length = W
theorem Wid.get {W : Nat} {L : List (List UInt8)} (h : Wid W L) {i : Nat} (hi : i < L.length) : (L.getD i []).length = W := by
  rw [List.getD_eq_getElem?_getD, List.getElem?_eq_getElem hi]
  exact h _ (List.getElem_mem hi)
theorem Wid.set {W : Nat} {L : List (List UInt8)} (h : Wid W L) (i : Nat) {r : List UInt8} (hr : r.length = W) : Wid W (L.set i r) := fun x hx => by
  rcases List.mem_or_eq_of_mem_set hx with hx | rfl
  · exact h x hx
  · exact hr
theorem headRow_length {W : Nat} {L : List (List UInt8)} (h : Wid W L) {at_ : Nat} (ha : at_ < L.length) (col : Nat) : (headRow L at_ col).length = W := by
  unfold headRow
  rw [Cib.scB_length]
  exact h.get ha
theorem Wid.clean {W : Nat} {L : List (List UInt8)} (h : Wid W L) {at_ : Nat} (ha : at_ < L.length) (col k : Nat) : Wid W (cleanL L at_ col k) := fun x hx => by
  obtain ⟨i, hi, rfl⟩ := List.getElem_of_mem hx
  rw [cleanL_length] at hi
  rw [cleanL_get hi]
  split
  · exact headRow_length h ha col
  · split
    · rw [Cib.foB_length]
      exact h _ (List.getElem_mem hi)
    · exact h _ (List.getElem_mem hi)
theorem ent_get {L : List (List UInt8)} {i : Nat} (hi : i < L.length) (k : Nat) : ent L i k = L[i].getD k 0 := by
  unfold ent
  rw [getD_at hi]
theorem gi_of (a : UInt8) : Fld.gdiv 1 a.toNat = (gi a).toNat := (gi_toNat a).symm
/-- A swap, and a column made clean. -/
def swapL (L : List (List UInt8)) (a b : Nat) : List (List UInt8) := (L.set a (L.getD b [])).set b (L.getD a [])
theorem swapL_length (L : List (List UInt8)) (a b : Nat) : (swapL L a b).length = L.length := by simp [swapL]
theorem swapL_ent {L : List (List UInt8)} {a b i : Nat} (ha : a < L.length) (hb : b < L.length) (hi : i < L.length) (k : Nat) : ent (swapL L a b) i k = ent L (sw a b i) k := by
  rw [ent_get (by rw [swapL_length]; exact hi)]
  unfold swapL sw
  rw [List.getElem_set]
  by_cases e : b = i
  · subst e
    rw [if_pos rfl]
    by_cases e2 : b = a
    · subst e2
      rw [if_pos rfl]
      rfl
    · rw [if_neg e2, if_pos rfl]
      rfl
  · rw [if_neg e, List.getElem_set]
    by_cases e2 : a = i
    · subst e2
      rw [if_pos rfl, if_pos rfl]
      rfl
    · rw [if_neg e2, if_neg (Ne.symm e2), if_neg (Ne.symm e), ent_get hi]
theorem Wid.swap {W : Nat} {L : List (List UInt8)} (h : Wid W L) {a b : Nat} (ha : a < L.length) (hb : b < L.length) : Wid W (swapL L a b) := (h.set a (h.get hb)).set b (h.get ha)
theorem Elm.clean {R W col r q : Nat} {T0 : Nat → Nat → UInt8} {L : List (List UInt8)} (h : Elm R W T0 col r (ent L)) (hL : L.length = R) (hw : Wid W L) (hr : r < R) (hq1 : r ≤ q) (hq : q < R) (hne : ent L q col ≠ 0) (hW : col < W) :
    Elm R W T0 (col + 1) (r + 1) (ent (cleanL (swapL L r q) r col R)) := by
  have hl : (swapL L r q).length = R := by rw [swapL_length, hL]
  have hs : ∀ i k, i < R → ent (swapL L r q) i k = ent L (sw r q i) k := fun i k hi => swapL_ent (by omega) (by omega) (by omega) k
  have hsr : sw r q r = q := if_pos rfl
  have hws := hw.swap (a := r) (b := q) (by omega) (by omega)
  have hhead : ∀ k, (headRow (swapL L r q) r col).getD k 0 = gm (gi (ent L q col)) (ent L q k) := fun k => by
    unfold headRow
    rw [gi_of, scB_ent, hs r col hr, hsr]
    show gm _ (ent (swapL L r q) r k) = _
    rw [hs r k hr, hsr]
  have hcl : ∀ i (hi : i < R), ent (cleanL (swapL L r q) r col R) i = fun k => (if i = r then headRow (swapL L r q) r col else foB (((swapL L r q)[i]'(by omega)).getD col 0).toNat (headRow (swapL L r q) r col) ((swapL L r q)[i]'(by omega))).getD k 0 := fun i hi => by
    funext k
    rw [ent_get (by rw [cleanL_length, hl]; exact hi), cleanL_get (by omega)]
    by_cases e : i = r
    · rw [if_pos e, if_pos e]
    · rw [if_neg e, if_neg e, if_pos hi]
  have h1 : ∀ k, ent (cleanL (swapL L r q) r col R) r k = gm (gi (ent L q col)) (ent L q k) := fun k => by
    rw [hcl r hr]
    show (if r = r then _ else _ : List UInt8).getD k 0 = _
    rw [if_pos rfl, hhead]
  refine h.step hr hq1 hq hne hW (fun k _ => h1 k) (fun i k hi hir hk => ?_)
  rw [h1, hcl i hi]
  show (if i = r then _ else _ : List UInt8).getD k 0 = _
  rw [if_neg hir, foB_ent _ _ _ (by rw [hws _ (List.getElem_mem _)]; exact hk), hhead, ← ent_get (by omega), ← ent_get (by omega), hs i k hi, hs i col hi]
/-- A row of noughts but for a 1. -/
def unitRow (i n : Nat) : List UInt8 := (List.replicate n 0).set i 1
theorem unitRow_length (i n : Nat) : (unitRow i n).length = n := by simp [unitRow]
theorem unitRow_get {i n k : Nat} (hk : k < n) : (unitRow i n).getD k 0 = dl i k := by
  have h : k < (unitRow i n).length := by rw [unitRow_length]; exact hk
  rw [List.getD_eq_getElem?_getD, List.getElem?_eq_getElem h]
  simp only [Option.getD_some, unitRow, List.getElem_set, List.getElem_replicate, dl]
/-- A matrix's row. -/
def rowOf (c : Nat) (A : List UInt8) (i : Nat) : List UInt8 := (A.drop (i * c)).take c
theorem rowOf_length {c r i : Nat} {A : List UInt8} (hA : A.length = r * c) (hi : i < r) : (rowOf c A i).length = c := by
  have h : (i + 1) * c ≤ r * c := Nat.mul_le_mul_right c hi
  rw [Nat.succ_mul] at h
  unfold rowOf
  rw [List.length_take, List.length_drop]
  omega
theorem rowOf_get {c i k : Nat} {A : List UInt8} (hk : k < c) : (rowOf c A i).getD k 0 = fl c A i k := by
  unfold rowOf fl
  simp only [List.getD_eq_getElem?_getD]
  rw [List.getElem?_take, if_pos hk, List.getElem?_drop]
/-- What is begun with. -/
def begunL (r c : Nat) (A : List UInt8) (both : Bool) : List (List UInt8) := (List.range r).map fun i => rowOf c A i ++ (if both then unitRow i r else [])
theorem begunL_length (r c : Nat) (A : List UInt8) (both : Bool) : (begunL r c A both).length = r := by simp [begunL]
theorem begunL_get {r c i : Nat} {A : List UInt8} {both : Bool} (h : i < (begunL r c A both).length) : (begunL r c A both)[i] = rowOf c A i ++ (if both then unitRow i r else []) := by
  simp [begunL]
theorem begunL_wid {r c : Nat} {A : List UInt8} (hA : A.length = r * c) (both : Bool) : Wid (c + if both then r else 0) (begunL r c A both) := fun x hx => by
  obtain ⟨i, hi, rfl⟩ := List.mem_map.1 hx
  rw [List.mem_range] at hi
  rw [List.length_append, rowOf_length hA hi]
  cases both
  · rfl
  · simp [unitRow_length]
theorem begunL_ent {r c : Nat} {A : List UInt8} (hA : A.length = r * c) (both : Bool) {i k : Nat} (hi : i < r) (hk : k < c) : ent (begunL r c A both) i k = fl c A i k := by
  rw [ent_get (by rw [begunL_length]; exact hi), begunL_get, ← rowOf_get hk]
  simp only [List.getD_eq_getElem?_getD]
  rw [List.getElem?_append_left (by rw [rowOf_length hA hi]; exact hk)]
theorem begunL_unit {r c : Nat} {A : List UInt8} (hA : A.length = r * c) {i k : Nat} (hi : i < r) (hk : k < r) : ent (begunL r c A true) i (c + k) = dl i k := by
  rw [ent_get (by rw [begunL_length]; exact hi), begunL_get, ← unitRow_get hk]
  simp only [List.getD_eq_getElem?_getD, if_true]
  rw [List.getElem?_append_right (by rw [rowOf_length hA hi]; omega), rowOf_length hA hi, Nat.add_sub_cancel_left]
/-! ### the document's rank -/
/-- The place of a row's first number that isn't nought. -/
def fstN (row : List UInt8) : Option Nat := row.findIdx? (· ≠ 0)
theorem fstN_some {row : List UInt8} {a : Nat} (h : fstN row = some a) : a < row.length ∧ row.getD a 0 ≠ 0 := by
  unfold fstN at h
  rw [List.findIdx?_eq_some_iff_getElem] at h
  obtain ⟨h1, h2, _⟩ := h
  refine ⟨h1, ?_⟩
  rw [List.getD_eq_getElem?_getD, List.getElem?_eq_getElem h1]
  simpa using h2
theorem fstN_none {row : List UInt8} (h : fstN row = none) (k : Nat) : row.getD k 0 = 0 := by
  unfold fstN at h
  rw [List.findIdx?_eq_none_iff] at h
  by_cases hk : k < row.length
  · have := h _ (List.getElem_mem hk)
    rw [List.getD_eq_getElem?_getD, List.getElem?_eq_getElem hk]
    simpa using this
  · rw [List.getD_eq_getElem?_getD, List.getElem?_eq_none (by omega)]
    rfl
/-- A kept row taken away. -/
def red1 (K row : List UInt8) : List UInt8 := match fstN K with
  | some a => if row.getD a 0 ≠ 0 then foB (Fld.gdiv (row.getD a 0).toNat (K.getD a 0).toNat) K row else row
  | none => row
def redF (kept : List (List UInt8)) (row : List UInt8) : List UInt8 := kept.foldl (fun r K => red1 K r) row
def keepF (kept : List (List UInt8)) (row : List UInt8) : List (List UInt8) := if fstN (redF kept row) = none then kept else kept ++ [redF kept row]
theorem gdiv_u8 (a b : Nat) : ∃ c : UInt8, Fld.gdiv a b = c.toNat := ⟨UInt8.ofNat (Fld.gdiv a b), by rw [UInt8.toNat_ofNat', Nat.mod_eq_of_lt (Fld.gdiv_lt _ _)]⟩
theorem red1_length (K row : List UInt8) : (red1 K row).length = row.length := by
  unfold red1
  split
  · split
    · exact Cib.foB_length _ _ _
    · rfl
  · rfl
theorem red1_ent (K row : List UInt8) : ∃ c : UInt8, ∀ k, k < row.length → (red1 K row).getD k 0 = row.getD k 0 ^^^ gm c (K.getD k 0) := by
  unfold red1
  split
  · split
    · rename_i a ha hne
      obtain ⟨c, hc⟩ := gdiv_u8 (row.getD a 0).toNat (K.getD a 0).toNat
      rw [hc]
      exact ⟨c, fun k hk => foB_ent c K row hk⟩
    · exact ⟨0, fun k _ => by rw [zero_gm, x_zero]⟩
  · exact ⟨0, fun k _ => by rw [zero_gm, x_zero]⟩
theorem red1_zero {K row : List UInt8} {a : Nat} (ha : fstN K = some a) (hl : row.length = K.length) : (red1 K row).getD a 0 = 0 := by
  obtain ⟨h1, h2⟩ := fstN_some ha
  unfold red1
  rw [ha]
  show (if row.getD a 0 ≠ 0 then _ else _ : List UInt8).getD a 0 = 0
  split
  · obtain ⟨c, hc⟩ := gdiv_u8 (row.getD a 0).toNat (K.getD a 0).toNat
    rw [hc, foB_ent c K row (by omega)]
    have : gm c (K.getD a 0) = row.getD a 0 := ext8 (by
      rw [gm_toNat, ← hc]
      exact Fld.div_mul (UInt8.toNat_lt _) (UInt8.toNat_lt _) (ne8 h2))
    rw [this, x_self]
  · rename_i h
    exact Classical.not_not.1 h
/-- The kept rows. -/
structure Kpt (R C : Nat) (M : Nat → Nat → UInt8) (i : Nat) (kept : List (List UInt8)) : Prop where
  wid : Wid C kept
  st : ∃ a : Nat → Nat, (∀ j, j < kept.length → fstN (kept.getD j []) = some (a j)) ∧ ∀ j j', j < j' → j' < kept.length → ent kept j' (a j) = 0
  sp : ∀ j, j < kept.length → Spn R C M (ent kept j)
  back : ∀ t, t < i → Spn kept.length C (ent kept) (M t)
theorem Kpt.start (R C : Nat) (M : Nat → Nat → UInt8) : Kpt R C M 0 [] := ⟨fun r hr => (by cases hr), ⟨fun _ => 0, fun j hj => (by simp at hj), fun j j' _ hj => (by simp at hj)⟩, fun j hj => (by simp at hj), fun t ht => (by omega)⟩
/-- A row of which the first t kept ones were taken away. -/
structure Red (R C : Nat) (M : Nat → Nat → UInt8) (kept : List (List UInt8)) (a : Nat → Nat) (row0 : List UInt8) (t : Nat) (row : List UInt8) : Prop where
  len : row.length = C
  zero : ∀ j, j < t → row.getD (a j) 0 = 0
  sp : Spn R C M (fun k => row.getD k 0)
  diff : Spn kept.length C (ent kept) (fun k => row0.getD k 0 ^^^ row.getD k 0)
theorem Red.next {R C : Nat} {M : Nat → Nat → UInt8} {kept : List (List UInt8)} {a : Nat → Nat} {row0 row : List UInt8} {t : Nat} (h : Red R C M kept a row0 t row) (hw : Wid C kept) (ha : ∀ j, j < kept.length → fstN (kept.getD j []) = some (a j)) (hz : ∀ j j', j < j' → j' < kept.length → ent kept j' (a j) = 0)
    (hsp : ∀ j, j < kept.length → Spn R C M (ent kept j)) (ht : t < kept.length) : Red R C M kept a row0 (t + 1) (red1 (kept.getD t []) row) := by
  have hlen : row.length = (kept.getD t []).length := by rw [h.len, hw.get ht]
  obtain ⟨c, hc⟩ := red1_ent (kept.getD t []) row
  rw [h.len] at hc
  refine ⟨by rw [red1_length, h.len], fun j hj => ?_, ?_, ?_⟩
  · by_cases e : j = t
    · rw [e]
      exact red1_zero (ha t ht) hlen
    · have haj : a j < C := by
        have := (fstN_some (ha j (by omega))).1
        rw [hw.get (by omega)] at this
        exact this
      rw [hc _ haj, h.zero j (by omega)]
      have : (kept.getD t []).getD (a j) 0 = 0 := hz j t (by omega) ht
      rw [this, gm_zero]
      exact x_self 0
  · exact (h.sp.add ((hsp t ht).smul c)).congr fun k hk => hc k hk
  · refine (h.diff.add ((Spn.row (M := ent kept) ht).smul c)).congr fun k hk => ?_
    show row0.getD k 0 ^^^ (red1 (kept.getD t []) row).getD k 0 = row0.getD k 0 ^^^ row.getD k 0 ^^^ gm c (ent kept t k)
    rw [hc k hk, UInt8.xor_assoc]
    rfl
theorem redF_take {kept : List (List UInt8)} {row : List UInt8} {t : Nat} (h : t < kept.length) : redF (kept.take (t + 1)) row = red1 kept[t] (redF (kept.take t) row) := by
  unfold redF
  rw [List.take_succ_eq_append_getElem h, List.foldl_append]
  rfl
theorem Kpt.next {R C i : Nat} {M : Nat → Nat → UInt8} {kept : List (List UInt8)} (h : Kpt R C M i kept) (hi : i < R) {row : List UInt8} (hl : row.length = C) (hrow : ∀ k, k < C → M i k = row.getD k 0) : Kpt R C M (i + 1) (keepF kept row) := by
  obtain ⟨a, ha, hz⟩ := h.st
  have key : ∀ t, t ≤ kept.length → Red R C M kept a row t (redF (kept.take t) row) := by
    intro t
    induction t with
    | zero =>
      intro _
      refine ⟨hl, fun j hj => by omega, (Spn.row hi).congr fun k hk => (hrow k hk).symm, Spn.nil.congr fun k _ => x_self _⟩
    | succ t ih =>
      intro ht
      have := (ih (by omega)).next h.wid ha hz h.sp (by omega)
      rw [redF_take (by omega)]
      rw [List.getD_eq_getElem?_getD, List.getElem?_eq_getElem (show t < kept.length by omega)] at this
      exact this
  have hR := key kept.length (Nat.le_refl _)
  rw [List.take_of_length_le (Nat.le_refl _)] at hR
  unfold keepF
  split
  · rename_i hn
    refine ⟨h.wid, ⟨a, ha, hz⟩, h.sp, fun t ht => ?_⟩
    by_cases e : t = i
    · rw [e]
      refine hR.diff.congr fun k hk => ?_
      rw [hrow k hk, fstN_none hn k, x_zero]
    · exact h.back t (by omega)
  · rename_i hn
    obtain ⟨b, hb⟩ : ∃ b, fstN (redF kept row) = some b := Option.ne_none_iff_exists'.1 hn
    have hgl : ∀ j, j < kept.length → (kept ++ [redF kept row]).getD j [] = kept.getD j [] := fun j hj => by
      simp only [List.getD_eq_getElem?_getD]
      rw [List.getElem?_append_left hj]
    have hgr : (kept ++ [redF kept row]).getD kept.length [] = redF kept row := by
      simp only [List.getD_eq_getElem?_getD]
      rw [List.getElem?_append_right (Nat.le_refl _), Nat.sub_self]
      rfl
    have hel : ∀ j, j < kept.length → ent (kept ++ [redF kept row]) j = ent kept j := fun j hj => by
      funext k
      unfold ent
      rw [hgl j hj]
    have her : ent (kept ++ [redF kept row]) kept.length = fun k => (redF kept row).getD k 0 := by
      funext k
      unfold ent
      rw [hgr]
    have hlen : (kept ++ [redF kept row]).length = kept.length + 1 := by simp
    have more : ∀ v, Spn kept.length C (ent kept) v → Spn (kept.length + 1) C (ent (kept ++ [redF kept row])) v := fun v hv =>
      hv.trans fun j hj => by
        have := Spn.row (C := C) (M := ent (kept ++ [redF kept row])) (show j < kept.length + 1 by omega)
        rw [hel j hj] at this
        exact this
    refine ⟨fun r hr => ?_, ⟨fun j => if j = kept.length then b else a j, fun j hj => ?_, fun j j' hjj hj' => ?_⟩, fun j hj => ?_, fun t ht => ?_⟩
    · rcases List.mem_append.1 hr with hr | hr
      · exact h.wid r hr
      · rw [List.mem_singleton] at hr
        rw [hr]
        exact hR.len
    · rw [hlen] at hj
      show fstN _ = some (if j = kept.length then b else a j)
      by_cases e : j = kept.length
      · rw [if_pos e, e, hgr]
        exact hb
      · rw [if_neg e, hgl j (by omega)]
        exact ha j (by omega)
    · rw [hlen] at hj'
      show ent _ j' (if j = kept.length then b else a j) = 0
      rw [if_neg (by omega)]
      by_cases e : j' = kept.length
      · rw [e, her]
        exact hR.zero j (by omega)
      · rw [hel j' (by omega)]
        exact hz j j' hjj (by omega)
    · rw [hlen] at hj
      by_cases e : j = kept.length
      · rw [e, her]
        exact hR.sp
      · rw [hel j (by omega)]
        exact h.sp j (by omega)
    · rw [hlen]
      by_cases e : t = i
      · rw [e]
        have h1 := more _ hR.diff
        have h2 : Spn (kept.length + 1) C (ent (kept ++ [redF kept row])) (fun k => (redF kept row).getD k 0) := by
          rw [← her]
          exact Spn.row (by omega)
        refine (h1.add h2).congr fun k hk => ?_
        rw [hrow k hk]
        show _ = row.getD k 0 ^^^ (redF kept row).getD k 0 ^^^ (redF kept row).getD k 0
        rw [UInt8.xor_assoc, x_self, x_zero]
      · exact more _ (h.back t (by omega))
theorem Kpt.rank {R C : Nat} {M : Nat → Nat → UInt8} {kept : List (List UInt8)} (h : Kpt R C M R kept) : Rk R C M kept.length := by
  obtain ⟨a, ha, hz⟩ := h.st
  refine ⟨⟨ent kept, h.back⟩, ent kept, h.sp, LI.stairs (a := a) (fun l hl => ?_) (fun l hl => ?_) hz⟩
  · have := (fstN_some (ha l hl)).1
    rw [h.wid.get hl] at this
    exact this
  · exact (fstN_some (ha l hl)).2
/-- The document's rows that are kept. -/
def keptF (c : Nat) (A : List UInt8) : Nat → List (List UInt8)
  | 0 => []
  | i + 1 => keepF (keptF c A i) (rowOf c A i)
theorem keptF_kpt {r c : Nat} {A : List UInt8} (hA : A.length = r * c) : ∀ i, i ≤ r → Kpt r c (fl c A) i (keptF c A i)
  | 0, _ => Kpt.start _ _ _
  | i + 1, h => (keptF_kpt hA i (by omega)).next (by omega) (rowOf_length hA (by omega)) fun k hk => (rowOf_get hk).symm
def rankF (r c : Nat) (A : List UInt8) : Nat := (keptF c A r).length
theorem rankF_rk {r c : Nat} {A : List UInt8} (hA : A.length = r * c) : Rk r c (fl c A) (rankF r c A) := (keptF_kpt hA r (Nat.le_refl _)).rank
end Lin
