/- Texts that are in use elsewhere, put together. -/
import Derived.Test.YthlpcghoijgeiaaLoA
import Derived.Test.YthlpcghoijgeiaaLoB
import Derived.Deep.RegionHeld
import Derived.Deep.RegionWith
/-! MatP -/
section
set_option linter.unusedVariables false
set_option linter.unusedSimpArgs false
namespace Lin
open Cib (scB foB)
/-- The number in row i, column k. -/
def ent (L : List (List UInt8)) (i k : Nat) : UInt8 := (L.getD i []).getD k 0
/-- The number in row i, column k of a matrix of c columns, row by row. -/
def fl (c : Nat) (A : List UInt8) (i k : Nat) : UInt8 := A.getD (i * c + k) 0
theorem gmul_gm (a b : UInt8) : UInt8.ofNat (Fld.gmul a.toNat b.toNat) = gm a b := rfl
theorem scB_ent (c : UInt8) (row : List UInt8) (k : Nat) : (scB c.toNat row).getD k 0 = gm c (row.getD k 0) := by
  by_cases h : k < row.length
  · have h' : k < (scB c.toNat row).length := by rw [Cib.scB_length]; exact h
    rw [List.getD_eq_getElem?_getD, List.getElem?_eq_getElem h', List.getD_eq_getElem?_getD, List.getElem?_eq_getElem h]
    simp only [Option.getD_some, scB, List.getElem_map]
    rfl
  · have h' : ¬ k < (scB c.toNat row).length := by rw [Cib.scB_length]; exact h
    rw [List.getD_eq_getElem?_getD, List.getElem?_eq_none (by omega), List.getD_eq_getElem?_getD, List.getElem?_eq_none (by omega)]
    simp [gm_zero]
theorem foB_ent (c : UInt8) (row into : List UInt8) {k : Nat} (h : k < into.length) : (foB c.toNat row into).getD k 0 = into.getD k 0 ^^^ gm c (row.getD k 0) := by
  have h' : k < (foB c.toNat row into).length := by rw [Cib.foB_length]; exact h
  rw [List.getD_eq_getElem?_getD, List.getElem?_eq_getElem h', List.getD_eq_getElem?_getD (l := into), List.getElem?_eq_getElem h]
  simp only [Option.getD_some]
  rw [Cib.foB_get h h']
  apply ext8
  rw [UInt8.toNat_xor, gm_toNat, Cib.foB_toNat c.toNat_lt]
theorem foB_zero (row into : List UInt8) : foB 0 row into = into := by
  unfold foB
  apply List.ext_getElem
  · simp
  · intro i h1 h2
    simp [Fld.zero_mul]
theorem getD_at {L : List (List UInt8)} {i : Nat} (hi : i < L.length) : L.getD i [] = L[i] := by
  rw [List.getD_eq_getElem?_getD, List.getElem?_eq_getElem hi]
  rfl
/-- A row in the one's place that makes its column's number 1. -/
def headRow (L : List (List UInt8)) (at_ col : Nat) : List UInt8 := scB (Fld.gdiv 1 (ent L at_ col).toNat) (L.getD at_ [])
/-- clean, behind so many rows. -/
def cleanL (L : List (List UInt8)) (at_ col k : Nat) : List (List UInt8) :=
  (L.set at_ (headRow L at_ col)).mapIdx fun i r => if i < k ∧ i ≠ at_ then foB (r.getD col 0).toNat (headRow L at_ col) r else r
theorem cleanL_length (L : List (List UInt8)) (at_ col k : Nat) : (cleanL L at_ col k).length = L.length := by simp [cleanL]
theorem cleanL_zero (L : List (List UInt8)) (at_ col : Nat) : cleanL L at_ col 0 = L.set at_ (headRow L at_ col) := by
  unfold cleanL
  apply List.ext_getElem
  · rw [List.length_mapIdx]
  · intro i h1 h2
    rw [List.getElem_mapIdx, if_neg (by omega)]
theorem cleanL_get {L : List (List UInt8)} {at_ col k i : Nat} (h : i < L.length) (h' : i < (cleanL L at_ col k).length) :
    (cleanL L at_ col k)[i] = if i = at_ then headRow L at_ col else if i < k then foB (L[i].getD col 0).toNat (headRow L at_ col) L[i] else L[i] := by
  have e0 : (cleanL L at_ col k)[i] = if i < k ∧ i ≠ at_ then foB (((L.set at_ (headRow L at_ col))[i]'(by simpa using h)).getD col 0).toNat (headRow L at_ col) ((L.set at_ (headRow L at_ col))[i]'(by simpa using h)) else (L.set at_ (headRow L at_ col))[i]'(by simpa using h) := List.getElem_mapIdx
  rw [e0, List.getElem_set]
  by_cases e : at_ = i
  · subst e
    rw [if_neg (by omega), if_pos rfl, if_pos rfl]
  · rw [if_neg e, if_neg (Ne.symm e)]
    by_cases hk : i < k
    · rw [if_pos ⟨hk, Ne.symm e⟩, if_pos hk]
    · rw [if_neg (fun h => hk h.1), if_neg hk]
theorem cleanL_next {L : List (List UInt8)} {at_ col k : Nat} (h : k < L.length) (hk : k ≠ at_) : cleanL L at_ col (k + 1) = (cleanL L at_ col k).set k (foB (L[k].getD col 0).toNat (headRow L at_ col) L[k]) := by
  apply List.ext_getElem
  · rw [List.length_set, cleanL_length, cleanL_length]
  · intro i h1 h2
    rw [cleanL_length] at h1
    rw [cleanL_get h1, List.getElem_set]
    by_cases e : k = i
    · subst e
      rw [if_neg hk, if_pos (by omega), if_pos rfl]
    · rw [if_neg e, cleanL_get h1]
      by_cases e2 : i = at_
      · rw [if_pos e2, if_pos e2]
      · rw [if_neg e2, if_neg e2]
        by_cases e3 : i < k
        · rw [if_pos (by omega), if_pos e3]
        · rw [if_neg (by omega), if_neg e3]
theorem cleanL_stay {L : List (List UInt8)} {at_ col k : Nat} (hk : k = at_ ∨ ((L.getD k []).getD col 0) = 0) : cleanL L at_ col (k + 1) = cleanL L at_ col k := by
  apply List.ext_getElem
  · rw [cleanL_length, cleanL_length]
  · intro i h1 h2
    rw [cleanL_length] at h1
    rw [cleanL_get h1, cleanL_get h1]
    by_cases e2 : i = at_
    · rw [if_pos e2, if_pos e2]
    · rw [if_neg e2, if_neg e2]
      by_cases e3 : i < k
      · rw [if_pos (by omega), if_pos e3]
      · by_cases e4 : i = k
        · subst e4
          rw [if_pos (by omega), if_neg e3]
          rcases hk with hk | hk
          · exact absurd hk e2
          · have : L[i].getD col 0 = 0 := by
              rw [getD_at (L := L) (by assumption)] at hk
              exact hk
            rw [this]
            exact foB_zero _ _
        · rw [if_neg (by omega), if_neg e3]
/-- All rows of one length. -/
def Wid (W : Nat) (L : List (List UInt8)) : Prop := ∀ r ∈ L, r.length = W
theorem Wid.get {W : Nat} {L : List (List UInt8)} (h : Wid W L) {i : Nat} (hi : i < L.length) : (L.getD i []).length = W := by
  rw [List.getD_eq_getElem?_getD, List.getElem?_eq_getElem hi]
  exact h _ (List.getElem_mem hi)
theorem Wid.set {W : Nat} {L : List (List UInt8)} (h : Wid W L) (i : Nat) {r : List UInt8} (hr : r.length = W) : Wid W (L.set i r) := fun x hx => by
  rcases List.mem_or_eq_of_mem_set hx with hx | rfl
  · exact h x hx
  · exact hr
theorem headRow_length {W : Nat} {L : List (List UInt8)} (h : Wid W L) {at_ : Nat} (ha : at_ < L.length) (col : Nat) : (headRow L at_ col).length = W := by
  unfold headRow
  rw [Cib.scB_length]
  exact h.get ha
theorem Wid.clean {W : Nat} {L : List (List UInt8)} (h : Wid W L) {at_ : Nat} (ha : at_ < L.length) (col k : Nat) : Wid W (cleanL L at_ col k) := fun x hx => by
  obtain ⟨i, hi, rfl⟩ := List.getElem_of_mem hx
  rw [cleanL_length] at hi
  rw [cleanL_get hi]
  split
  · exact headRow_length h ha col
  · split
    · rw [Cib.foB_length]
      exact h _ (List.getElem_mem hi)
    · exact h _ (List.getElem_mem hi)
theorem ent_get {L : List (List UInt8)} {i : Nat} (hi : i < L.length) (k : Nat) : ent L i k = L[i].getD k 0 := by
  unfold ent
  rw [getD_at hi]
theorem gi_of (a : UInt8) : Fld.gdiv 1 a.toNat = (gi a).toNat := (gi_toNat a).symm
/-- A swap, and a column made clean. -/
def swapL (L : List (List UInt8)) (a b : Nat) : List (List UInt8) := (L.set a (L.getD b [])).set b (L.getD a [])
theorem swapL_length (L : List (List UInt8)) (a b : Nat) : (swapL L a b).length = L.length := by simp [swapL]
theorem swapL_ent {L : List (List UInt8)} {a b i : Nat} (ha : a < L.length) (hb : b < L.length) (hi : i < L.length) (k : Nat) : ent (swapL L a b) i k = ent L (sw a b i) k := by
  rw [ent_get (by rw [swapL_length]; exact hi)]
  unfold swapL sw
  rw [List.getElem_set]
  by_cases e : b = i
  · subst e
    rw [if_pos rfl]
    by_cases e2 : b = a
    · subst e2
      rw [if_pos rfl]
      rfl
    · rw [if_neg e2, if_pos rfl]
      rfl
  · rw [if_neg e, List.getElem_set]
    by_cases e2 : a = i
    · subst e2
      rw [if_pos rfl, if_pos rfl]
      rfl
    · rw [if_neg e2, if_neg (Ne.symm e2), if_neg (Ne.symm e), ent_get hi]
theorem Wid.swap {W : Nat} {L : List (List UInt8)} (h : Wid W L) {a b : Nat} (ha : a < L.length) (hb : b < L.length) : Wid W (swapL L a b) := (h.set a (h.get hb)).set b (h.get ha)
theorem Elm.clean {R W col r q : Nat} {T0 : Nat → Nat → UInt8} {L : List (List UInt8)} (h : Elm R W T0 col r (ent L)) (hL : L.length = R) (hw : Wid W L) (hr : r < R) (hq1 : r ≤ q) (hq : q < R) (hne : ent L q col ≠ 0) (hW : col < W) :
    Elm R W T0 (col + 1) (r + 1) (ent (cleanL (swapL L r q) r col R)) := by
  have hl : (swapL L r q).length = R := by rw [swapL_length, hL]
  have hs : ∀ i k, i < R → ent (swapL L r q) i k = ent L (sw r q i) k := fun i k hi => swapL_ent (by omega) (by omega) (by omega) k
  have hsr : sw r q r = q := if_pos rfl
  have hws := hw.swap (a := r) (b := q) (by omega) (by omega)
  have hhead : ∀ k, (headRow (swapL L r q) r col).getD k 0 = gm (gi (ent L q col)) (ent L q k) := fun k => by
    unfold headRow
    rw [gi_of, scB_ent, hs r col hr, hsr]
    show gm _ (ent (swapL L r q) r k) = _
    rw [hs r k hr, hsr]
  have hcl : ∀ i (hi : i < R), ent (cleanL (swapL L r q) r col R) i = fun k => (if i = r then headRow (swapL L r q) r col else foB (((swapL L r q)[i]'(by omega)).getD col 0).toNat (headRow (swapL L r q) r col) ((swapL L r q)[i]'(by omega))).getD k 0 := fun i hi => by
    funext k
    rw [ent_get (by rw [cleanL_length, hl]; exact hi), cleanL_get (by omega)]
    by_cases e : i = r
    · rw [if_pos e, if_pos e]
    · rw [if_neg e, if_neg e, if_pos hi]
  have h1 : ∀ k, ent (cleanL (swapL L r q) r col R) r k = gm (gi (ent L q col)) (ent L q k) := fun k => by
    rw [hcl r hr]
    show (if r = r then _ else _ : List UInt8).getD k 0 = _
    rw [if_pos rfl, hhead]
  refine h.step hr hq1 hq hne hW (fun k _ => h1 k) (fun i k hi hir hk => ?_)
  rw [h1, hcl i hi]
  show (if i = r then _ else _ : List UInt8).getD k 0 = _
  rw [if_neg hir, foB_ent _ _ _ (by rw [hws _ (List.getElem_mem _)]; exact hk), hhead, ← ent_get (by omega), ← ent_get (by omega), hs i k hi, hs i col hi]
/-- A row of noughts but for a 1. -/
def unitRow (i n : Nat) : List UInt8 := (List.replicate n 0).set i 1
theorem unitRow_length (i n : Nat) : (unitRow i n).length = n := by simp [unitRow]
theorem unitRow_get {i n k : Nat} (hk : k < n) : (unitRow i n).getD k 0 = dl i k := by
  have h : k < (unitRow i n).length := by rw [unitRow_length]; exact hk
  rw [List.getD_eq_getElem?_getD, List.getElem?_eq_getElem h]
  simp only [Option.getD_some, unitRow, List.getElem_set, List.getElem_replicate, dl]
/-- A matrix's row. -/
def rowOf (c : Nat) (A : List UInt8) (i : Nat) : List UInt8 := (A.drop (i * c)).take c
theorem rowOf_length {c r i : Nat} {A : List UInt8} (hA : A.length = r * c) (hi : i < r) : (rowOf c A i).length = c := by
  have h : (i + 1) * c ≤ r * c := Nat.mul_le_mul_right c hi
  rw [Nat.succ_mul] at h
  unfold rowOf
  rw [List.length_take, List.length_drop]
  omega
theorem rowOf_get {c i k : Nat} {A : List UInt8} (hk : k < c) : (rowOf c A i).getD k 0 = fl c A i k := by
  unfold rowOf fl
  simp only [List.getD_eq_getElem?_getD]
  rw [List.getElem?_take, if_pos hk, List.getElem?_drop]
/-- What is begun with. -/
def begunL (r c : Nat) (A : List UInt8) (both : Bool) : List (List UInt8) := (List.range r).map fun i => rowOf c A i ++ (if both then unitRow i r else [])
theorem begunL_length (r c : Nat) (A : List UInt8) (both : Bool) : (begunL r c A both).length = r := by simp [begunL]
theorem begunL_get {r c i : Nat} {A : List UInt8} {both : Bool} (h : i < (begunL r c A both).length) : (begunL r c A both)[i] = rowOf c A i ++ (if both then unitRow i r else []) := by
  simp [begunL]
theorem begunL_wid {r c : Nat} {A : List UInt8} (hA : A.length = r * c) (both : Bool) : Wid (c + if both then r else 0) (begunL r c A both) := fun x hx => by
  obtain ⟨i, hi, rfl⟩ := List.mem_map.1 hx
  rw [List.mem_range] at hi
  rw [List.length_append, rowOf_length hA hi]
  cases both
  · rfl
  · simp [unitRow_length]
theorem begunL_ent {r c : Nat} {A : List UInt8} (hA : A.length = r * c) (both : Bool) {i k : Nat} (hi : i < r) (hk : k < c) : ent (begunL r c A both) i k = fl c A i k := by
  rw [ent_get (by rw [begunL_length]; exact hi), begunL_get, ← rowOf_get hk]
  simp only [List.getD_eq_getElem?_getD]
  rw [List.getElem?_append_left (by rw [rowOf_length hA hi]; exact hk)]
theorem begunL_unit {r c : Nat} {A : List UInt8} (hA : A.length = r * c) {i k : Nat} (hi : i < r) (hk : k < r) : ent (begunL r c A true) i (c + k) = dl i k := by
  rw [ent_get (by rw [begunL_length]; exact hi), begunL_get, ← unitRow_get hk]
  simp only [List.getD_eq_getElem?_getD, if_true]
  rw [List.getElem?_append_right (by rw [rowOf_length hA hi]; omega), rowOf_length hA hi, Nat.add_sub_cancel_left]
/-! ### the document's rank -/
/-- The place of a row's first number that isn't nought. -/
def fstN (row : List UInt8) : Option Nat := row.findIdx? (· ≠ 0)
theorem fstN_some {row : List UInt8} {a : Nat} (h : fstN row = some a) : a < row.length ∧ row.getD a 0 ≠ 0 := by
  unfold fstN at h
  rw [List.findIdx?_eq_some_iff_getElem] at h
  obtain ⟨h1, h2, _⟩ := h
  refine ⟨h1, ?_⟩
  rw [List.getD_eq_getElem?_getD, List.getElem?_eq_getElem h1]
  simpa using h2
theorem fstN_none {row : List UInt8} (h : fstN row = none) (k : Nat) : row.getD k 0 = 0 := by
  unfold fstN at h
  rw [List.findIdx?_eq_none_iff] at h
  by_cases hk : k < row.length
  · have := h _ (List.getElem_mem hk)
    rw [List.getD_eq_getElem?_getD, List.getElem?_eq_getElem hk]
    simpa using this
  · rw [List.getD_eq_getElem?_getD, List.getElem?_eq_none (by omega)]
    rfl
/-- A kept row taken away. -/
def red1 (K row : List UInt8) : List UInt8 := match fstN K with
  | some a => if row.getD a 0 ≠ 0 then foB (Fld.gdiv (row.getD a 0).toNat (K.getD a 0).toNat) K row else row
  | none => row
def redF (kept : List (List UInt8)) (row : List UInt8) : List UInt8 := kept.foldl (fun r K => red1 K r) row
def keepF (kept : List (List UInt8)) (row : List UInt8) : List (List UInt8) := if fstN (redF kept row) = none then kept else kept ++ [redF kept row]
theorem gdiv_u8 (a b : Nat) : ∃ c : UInt8, Fld.gdiv a b = c.toNat := ⟨UInt8.ofNat (Fld.gdiv a b), by rw [UInt8.toNat_ofNat', Nat.mod_eq_of_lt (Fld.gdiv_lt _ _)]⟩
theorem red1_length (K row : List UInt8) : (red1 K row).length = row.length := by
  unfold red1
  split
  · split
    · exact Cib.foB_length _ _ _
    · rfl
  · rfl
theorem red1_ent (K row : List UInt8) : ∃ c : UInt8, ∀ k, k < row.length → (red1 K row).getD k 0 = row.getD k 0 ^^^ gm c (K.getD k 0) := by
  unfold red1
  split
  · split
    · rename_i a ha hne
      obtain ⟨c, hc⟩ := gdiv_u8 (row.getD a 0).toNat (K.getD a 0).toNat
      rw [hc]
      exact ⟨c, fun k hk => foB_ent c K row hk⟩
    · exact ⟨0, fun k _ => by rw [zero_gm, x_zero]⟩
  · exact ⟨0, fun k _ => by rw [zero_gm, x_zero]⟩
theorem red1_zero {K row : List UInt8} {a : Nat} (ha : fstN K = some a) (hl : row.length = K.length) : (red1 K row).getD a 0 = 0 := by
  obtain ⟨h1, h2⟩ := fstN_some ha
  unfold red1
  rw [ha]
  show (if row.getD a 0 ≠ 0 then _ else _ : List UInt8).getD a 0 = 0
  split
  · obtain ⟨c, hc⟩ := gdiv_u8 (row.getD a 0).toNat (K.getD a 0).toNat
    rw [hc, foB_ent c K row (by omega)]
    have : gm c (K.getD a 0) = row.getD a 0 := ext8 (by
      rw [gm_toNat, ← hc]
      exact Fld.div_mul (UInt8.toNat_lt _) (UInt8.toNat_lt _) (ne8 h2))
    rw [this, x_self]
  · rename_i h
    exact Classical.not_not.1 h
/-- The kept rows. -/
structure Kpt (R C : Nat) (M : Nat → Nat → UInt8) (i : Nat) (kept : List (List UInt8)) : Prop where
  wid : Wid C kept
  st : ∃ a : Nat → Nat, (∀ j, j < kept.length → fstN (kept.getD j []) = some (a j)) ∧ ∀ j j', j < j' → j' < kept.length → ent kept j' (a j) = 0
  sp : ∀ j, j < kept.length → Spn R C M (ent kept j)
  back : ∀ t, t < i → Spn kept.length C (ent kept) (M t)
theorem Kpt.start (R C : Nat) (M : Nat → Nat → UInt8) : Kpt R C M 0 [] := ⟨fun r hr => (by cases hr), ⟨fun _ => 0, fun j hj => (by simp at hj), fun j j' _ hj => (by simp at hj)⟩, fun j hj => (by simp at hj), fun t ht => (by omega)⟩
/-- A row of which the first t kept ones were taken away. -/
structure Red (R C : Nat) (M : Nat → Nat → UInt8) (kept : List (List UInt8)) (a : Nat → Nat) (row0 : List UInt8) (t : Nat) (row : List UInt8) : Prop where
  len : row.length = C
  zero : ∀ j, j < t → row.getD (a j) 0 = 0
  sp : Spn R C M (fun k => row.getD k 0)
  diff : Spn kept.length C (ent kept) (fun k => row0.getD k 0 ^^^ row.getD k 0)
theorem Red.next {R C : Nat} {M : Nat → Nat → UInt8} {kept : List (List UInt8)} {a : Nat → Nat} {row0 row : List UInt8} {t : Nat} (h : Red R C M kept a row0 t row) (hw : Wid C kept) (ha : ∀ j, j < kept.length → fstN (kept.getD j []) = some (a j)) (hz : ∀ j j', j < j' → j' < kept.length → ent kept j' (a j) = 0)
    (hsp : ∀ j, j < kept.length → Spn R C M (ent kept j)) (ht : t < kept.length) : Red R C M kept a row0 (t + 1) (red1 (kept.getD t []) row) := by
  have hlen : row.length = (kept.getD t []).length := by rw [h.len, hw.get ht]
  obtain ⟨c, hc⟩ := red1_ent (kept.getD t []) row
  rw [h.len] at hc
  refine ⟨by rw [red1_length, h.len], fun j hj => ?_, ?_, ?_⟩
  · by_cases e : j = t
    · rw [e]
      exact red1_zero (ha t ht) hlen
    · have haj : a j < C := by
        have := (fstN_some (ha j (by omega))).1
        rw [hw.get (by omega)] at this
        exact this
      rw [hc _ haj, h.zero j (by omega)]
      have : (kept.getD t []).getD (a j) 0 = 0 := hz j t (by omega) ht
      rw [this, gm_zero]
      exact x_self 0
  · exact (h.sp.add ((hsp t ht).smul c)).congr fun k hk => hc k hk
  · refine (h.diff.add ((Spn.row (M := ent kept) ht).smul c)).congr fun k hk => ?_
    show row0.getD k 0 ^^^ (red1 (kept.getD t []) row).getD k 0 = row0.getD k 0 ^^^ row.getD k 0 ^^^ gm c (ent kept t k)
    rw [hc k hk, UInt8.xor_assoc]
    rfl
theorem redF_take {kept : List (List UInt8)} {row : List UInt8} {t : Nat} (h : t < kept.length) : redF (kept.take (t + 1)) row = red1 kept[t] (redF (kept.take t) row) := by
  unfold redF
  rw [List.take_succ_eq_append_getElem h, List.foldl_append]
  rfl
theorem Kpt.next {R C i : Nat} {M : Nat → Nat → UInt8} {kept : List (List UInt8)} (h : Kpt R C M i kept) (hi : i < R) {row : List UInt8} (hl : row.length = C) (hrow : ∀ k, k < C → M i k = row.getD k 0) : Kpt R C M (i + 1) (keepF kept row) := by
  obtain ⟨a, ha, hz⟩ := h.st
  have key : ∀ t, t ≤ kept.length → Red R C M kept a row t (redF (kept.take t) row) := by
    intro t
    induction t with
    | zero =>
      intro _
      refine ⟨hl, fun j hj => by omega, (Spn.row hi).congr fun k hk => (hrow k hk).symm, Spn.nil.congr fun k _ => x_self _⟩
    | succ t ih =>
      intro ht
      have := (ih (by omega)).next h.wid ha hz h.sp (by omega)
      rw [redF_take (by omega)]
      rw [List.getD_eq_getElem?_getD, List.getElem?_eq_getElem (show t < kept.length by omega)] at this
      exact this
  have hR := key kept.length (Nat.le_refl _)
  rw [List.take_of_length_le (Nat.le_refl _)] at hR
  unfold keepF
  split
  · rename_i hn
    refine ⟨h.wid, ⟨a, ha, hz⟩, h.sp, fun t ht => ?_⟩
    by_cases e : t = i
    · rw [e]
      refine hR.diff.congr fun k hk => ?_
      rw [hrow k hk, fstN_none hn k, x_zero]
    · exact h.back t (by omega)
  · rename_i hn
    obtain ⟨b, hb⟩ : ∃ b, fstN (redF kept row) = some b := Option.ne_none_iff_exists'.1 hn
    have hgl : ∀ j, j < kept.length → (kept ++ [redF kept row]).getD j [] = kept.getD j [] := fun j hj => by
      simp only [List.getD_eq_getElem?_getD]
      rw [List.getElem?_append_left hj]
    have hgr : (kept ++ [redF kept row]).getD kept.length [] = redF kept row := by
      simp only [List.getD_eq_getElem?_getD]
      rw [List.getElem?_append_right (Nat.le_refl _), Nat.sub_self]
      rfl
    have hel : ∀ j, j < kept.length → ent (kept ++ [redF kept row]) j = ent kept j := fun j hj => by
      funext k
      unfold ent
      rw [hgl j hj]
    have her : ent (kept ++ [redF kept row]) kept.length = fun k => (redF kept row).getD k 0 := by
      funext k
      unfold ent
      rw [hgr]
    have hlen : (kept ++ [redF kept row]).length = kept.length + 1 := by simp
    have more : ∀ v, Spn kept.length C (ent kept) v → Spn (kept.length + 1) C (ent (kept ++ [redF kept row])) v := fun v hv =>
      hv.trans fun j hj => by
        have := Spn.row (C := C) (M := ent (kept ++ [redF kept row])) (show j < kept.length + 1 by omega)
        rw [hel j hj] at this
        exact this
    refine ⟨fun r hr => ?_, ⟨fun j => if j = kept.length then b else a j, fun j hj => ?_, fun j j' hjj hj' => ?_⟩, fun j hj => ?_, fun t ht => ?_⟩
    · rcases List.mem_append.1 hr with hr | hr
      · exact h.wid r hr
      · rw [List.mem_singleton] at hr
        rw [hr]
        exact hR.len
    · rw [hlen] at hj
      show fstN _ = some (if j = kept.length then b else a j)
      by_cases e : j = kept.length
      · rw [if_pos e, e, hgr]
        exact hb
      · rw [if_neg e, hgl j (by omega)]
        exact ha j (by omega)
    · rw [hlen] at hj'
      show ent _ j' (if j = kept.length then b else a j) = 0
      rw [if_neg (by omega)]
      by_cases e : j' = kept.length
      · rw [e, her]
        exact hR.zero j (by omega)
      · rw [hel j' (by omega)]
        exact hz j j' hjj (by omega)
    · rw [hlen] at hj
      by_cases e : j = kept.length
      · rw [e, her]
        exact hR.sp
      · rw [hel j (by omega)]
        exact h.sp j (by omega)
    · rw [hlen]
      by_cases e : t = i
      · rw [e]
        have h1 := more _ hR.diff
        have h2 : Spn (kept.length + 1) C (ent (kept ++ [redF kept row])) (fun k => (redF kept row).getD k 0) := by
          rw [← her]
          exact Spn.row (by omega)
        refine (h1.add h2).congr fun k hk => ?_
        rw [hrow k hk]
        show _ = row.getD k 0 ^^^ (redF kept row).getD k 0 ^^^ (redF kept row).getD k 0
        rw [UInt8.xor_assoc, x_self, x_zero]
      · exact more _ (h.back t (by omega))
theorem Kpt.rank {R C : Nat} {M : Nat → Nat → UInt8} {kept : List (List UInt8)} (h : Kpt R C M R kept) : Rk R C M kept.length := by
  obtain ⟨a, ha, hz⟩ := h.st
  refine ⟨⟨ent kept, h.back⟩, ent kept, h.sp, LI.stairs (a := a) (fun l hl => ?_) (fun l hl => ?_) hz⟩
  · have := (fstN_some (ha l hl)).1
    rw [h.wid.get hl] at this
    exact this
  · exact (fstN_some (ha l hl)).2
/-- The document's rows that are kept. -/
def keptF (c : Nat) (A : List UInt8) : Nat → List (List UInt8)
  | 0 => []
  | i + 1 => keepF (keptF c A i) (rowOf c A i)
theorem keptF_kpt {r c : Nat} {A : List UInt8} (hA : A.length = r * c) : ∀ i, i ≤ r → Kpt r c (fl c A) i (keptF c A i)
  | 0, _ => Kpt.start _ _ _
  | i + 1, h => (keptF_kpt hA i (by omega)).next (by omega) (rowOf_length hA (by omega)) fun k hk => (rowOf_get hk).symm
def rankF (r c : Nat) (A : List UInt8) : Nat := (keptF c A r).length
theorem rankF_rk {r c : Nat} {A : List UInt8} (hA : A.length = r * c) : Rk r c (fl c A) (rankF r c A) := (keptF_kpt hA r (Nat.le_refl _)).rank
end Lin

end
/-! Reg -/
section
set_option linter.unusedVariables false
set_option linter.unusedSimpArgs false
namespace Cib
open Go Go.RowKit Go.Proofs

/-- The condition that the reads go by may be strengthened on the way. -/
theorem wpAnyH_strong {P : Program} {md : Region.Mode} {ops : Array Oper} {Q : Exit → Act → World → Prop} {S1 S2 : World → Prop} (h : ∀ w, S2 w → S1 w) :
    ∀ {fuel : Nat} {listed : Array Bool} {a : Act} {w : World}, wpAnyH P md ops Q S2 fuel listed a w → wpAnyH P md ops Q S1 fuel listed a w := by
  intro fuel
  induction fuel with
  | zero => intro listed a w h2; exact h2
  | succ fuel ih =>
    intro listed a w h2
    exact ⟨h2.1, fun i hi => wpOp_mono (fun a' w' h' => ⟨h _ h'.1, ih h'.2⟩) (h2.2 i hi)⟩
theorem Rd.drew {w : World} {B : Nat} {A : Option Addr} {vs : List Value} (h : Rd w B A vs) : Rd w.drew B A vs := h
theorem Rd.drewN {w : World} {B : Nat} {A : Option Addr} {vs : List Value} (h : Rd w B A vs) (n : Nat) : Rd (w.drewN n) B A vs := h
/-- An operation that is guarded, and wanted. -/
theorem wpList_on {P : Program} {ops : Array Oper} {rest : List Oper} {o : Oper} {a : Act} {w : World} {Q : Exit → Act → World → Prop} (hw : Region.wanted o (yielded ops a.tmps) = true)
    (h : ∀ K : Act → World → Prop, (∀ a w, wpList P ops Q rest a w → K a w) → o.wp P a w K Q) : wpList P ops Q (o :: rest) a w :=
  wpList_step fun K hK => by rw [if_pos hw]; exact h K hK
theorem wpList_load_rowG {P : Program} {ops : Array Oper} {rest : List Oper} {o : Oper} {a : Act} {w : World} {Q : Exit → Act → World → Prop} (hw : Region.wanted o (yielded ops a.tmps) = true) (ty : TypeId) (x : Operand) (ho : o.op = .load ty x)
    (g : Nat) (hx : a.eval x = .pointer (some ⟨g, 0, none⟩)) (t : TypeId) (cs : Array Value) (fr : Nat × Nat) (d : TypeDesc) (hg : w.heap[g]? = some (.cells cs t fr))
    (hu : P.underlying ty = some d) (hd : (match d with | .struct _ | .array _ _ => true | _ => false) = true) (hi : (P.info? ty).map (·.size) = some cs.size)
    (h : wpList P ops Q rest (a.put o.dst (.agg cs)) w) : wpList P ops Q (o :: rest) a w :=
  wpList_on hw fun _ hK => wp_load_row ty x ho g hx t cs fr d hg hu hd hi (hK _ _ h)
theorem wpList_buildG {P : Program} {ops : Array Oper} {rest : List Oper} {o : Oper} {a : Act} {w : World} {Q : Exit → Act → World → Prop} (hw : Region.wanted o (yielded ops a.tmps) = true) (t : TypeId) (parts : Array (Nat × Operand)) (ho : o.op = .build t parts)
    (cells : Array Value) {l : List (Nat × Value)} (hb : P.built t l = some cells) (hl : (parts.map fun (i, x) => (i, a.eval x)).toList = l)
    (h : wpList P ops Q rest (a.put o.dst (.agg cells)) w) : wpList P ops Q (o :: rest) a w :=
  wpList_on hw fun K hK => wp_build t parts ho (by rw [hl, hb]; rfl) (hK _ _ (by rw [hl, hb]; exact h))
/-- A byte of a number below 256. -/
theorem byte_mk {n : Nat} (h : n < 256) : ∃ z : UInt8, Hid (UInt8.ofNat n = z) ∧ n = z.toNat :=
  ⟨UInt8.ofNat n, by (show _ = _; rfl), by rw [UInt8.toNat_ofNat', Nat.mod_eq_of_lt (by omega)]⟩
theorem wf_u8 {n : Int} (h : (Lit.int .u8 n).wf = true) : ∃ m : Nat, n = (m : Int) ∧ m < 256 := by
  simp only [Lit.wf, Bool.and_eq_true, decide_eq_true_eq] at h
  have h1 : IntKind.u8.min = 0 := rfl
  have h2 : IntKind.u8.max = 255 := rfl
  exact ⟨n.toNat, by omega, by omega⟩
theorem wf_i64 {n : Int} (h : (Lit.int .i64 n).wf = true) : -9223372036854775808 ≤ n ∧ n ≤ 9223372036854775807 := by
  simp only [Lit.wf, Bool.and_eq_true, decide_eq_true_eq] at h
  have h1 : IntKind.i64.min = -9223372036854775808 := rfl
  have h2 : IntKind.i64.max = 9223372036854775807 := rfl
  omega
theorem wf_u64 {n : Int} (h : (Lit.int .u64 n).wf = true) : ∃ k : Nat, n = (k : Int) ∧ k < 18446744073709551616 := by
  have hb := bounds_u64 h
  exact ⟨n.toNat, by omega, by omega⟩
/-- What string(v) answers where the slice reads as the text. -/
theorem str_run {w wS : World} {B : Nat} {A : Option Addr} {xs : List UInt8} (h : Rd w B A (xs.map bv)) (hS : Below w.heap.size w wS) (hB : B ≤ w.heap.size) {n : Nat} (hn : xs.length = n) (c : Nat) :
    (convert 22 9 (.slice A n c)).run Try.prog wS = .ok (.string ⟨xs.toArray⟩) wS :=
  run_str (P := Try.prog) 22 9 5 Try.underlying22 Try.underlying5 Try.underlying9 (h.keep fun p hp => hS.cell (by omega)) hn c
end Cib

end
/-! MatW -/
section
set_option linter.unusedVariables false
set_option linter.unusedSimpArgs false
set_option maxRecDepth 20000
namespace Cib
open Go Go.RowKit Go.Proofs
/-- A matrix as a value. -/
def mv (r c : Int) (A : Option Addr) (n k : Nat) : Array Value := #[.int .i64 r, .int .i64 c, .slice A n k]
/-- A number from 1 to 255? -/
def wi (n : Int) : Bool := decide (1 ≤ n ∧ n ≤ 255)
/-- A right matrix? -/
def mr (r c : Int) (n : Nat) : Bool := wi r && wi c && decide ((n : Int) = r * c)
theorem wi_true {n : Int} : wi n = true ↔ 1 ≤ n ∧ n ≤ 255 := by simp [wi]
theorem mr_true {r c : Int} {n : Nat} : mr r c n = true ↔ (1 ≤ r ∧ r ≤ 255) ∧ (1 ≤ c ∧ c ≤ 255) ∧ (n : Int) = r * c := by simp [mr, wi, and_assoc]
theorem matWithin (n : Int) (w : World) : Calls Try.prog 27 #[.int .i64 n] w fun e w' => e = .returned (.bool (wi n)) ∧ w' = w := by
  by_cases h1 : 1 ≤ n
  · by_cases h2 : n ≤ 255
    · rw [show wi n = true from wi_true.2 ⟨h1, h2⟩]
      go_enter Try.func27, Try.ntmps27
      go_wp2
      go_ret
      exact ⟨rfl, rfl⟩
    · rw [show wi n = false from by simp [wi]; omega]
      go_enter Try.func27, Try.ntmps27
      go_wp2
      go_ret
      exact ⟨rfl, rfl⟩
  · rw [show wi n = false from by simp [wi]; omega]
    go_enter Try.func27, Try.ntmps27
    go_wp2
    go_ret
    exact ⟨rfl, rfl⟩
set_option maxHeartbeats 1600000 in
theorem matRight (r c : Int) (A : Option Addr) (n k : Nat) (hn : n ≤ 140737488355328) (w : World) : Calls Try.prog 59 #[.agg (mv r c A n k)] w fun e w' => e = .returned (.bool (mr r c n)) ∧ Below w.heap.size w w' := by
  have hal : Below w.heap.size w (w.alloc (.cells (mv r c A n k) 45)) := (Below.refl _ _).alloc (Nat.le_refl _) _
  have HAL := Lib.hid hal
  clear hal
  unfold mv at *
  obtain ⟨x, hx⟩ : ∃ x, Hid (wi r = x) := ⟨_, rfl⟩
  obtain ⟨y, hy⟩ : ∃ y, Hid (wi c = y) := ⟨_, rfl⟩
  unfold mr
  rw [hx.out, hy.out]
  have H1 := Lib.hid (fun w => matWithin r w)
  have H2 := Lib.hid (fun w => matWithin c w)
  rw [hx.out] at H1
  rw [hy.out] at H2
  rcases x with _ | _
  · go_enter Try.func59, Try.ntmps59
    go_wp2_with (go_at_call 27; refine (H1.out _).mono ?_; rintro e w' ⟨rfl, rfl⟩)
    go_ret
    exact ⟨rfl, HAL.out⟩
  · rcases y with _ | _
    · go_enter Try.func59, Try.ntmps59
      go_wp2_with (go_at_call 27; first | (refine (H1.out _).mono ?_; rintro e w' ⟨rfl, rfl⟩) | (refine (H2.out _).mono ?_; rintro e w' ⟨rfl, rfl⟩))
      go_ret
      exact ⟨rfl, HAL.out⟩
    · obtain ⟨hr1, hr2⟩ := wi_true.1 hx.out
      obtain ⟨hc1, hc2⟩ := wi_true.1 hy.out
      have hm : r * c ≤ 255 * 255 := Int.mul_le_mul hr2 hc2 (by omega) (by omega)
      have hm0 : 0 ≤ r * c := Int.mul_nonneg (by omega) (by omega)
      have hw : IntKind.i64.wrap (r * c) = r * c := by rw [IntKind.wrap_i64]; omega
      have HW : Hid (wrap64 (r * c) = r * c) := (by show wrap64 (r * c) = r * c; unfold wrap64; omega)
      obtain ⟨z, hz⟩ : ∃ z, Hid (decide ((n : Int) = r * c) = z) := ⟨_, rfl⟩
      have hzz : ((n : Int) == r * c) = z := by rw [← hz.out]; rfl
      rw [hz.out]
      clear hw hm hm0
      go_enter Try.func59, Try.ntmps59
      go_wp2_with (go_at_call 27; first | (refine (H1.out _).mono ?_; rintro e w' ⟨rfl, rfl⟩) | (refine (H2.out _).mono ?_; rintro e w' ⟨rfl, rfl⟩))
      go_ret
      rw [HW.out]
      exact ⟨by simp [hzz], HAL.out⟩
theorem matRow (A : Option Addr) (n k : Nat) (c i : Nat) (hc : c ≤ 255) (hi : (i + 1) * c ≤ n) (hi2 : i ≤ 255) (hn : n ≤ k) (w : World) : Calls Try.prog 60 #[.slice A n k, .int .i64 (c : Int), .int .i64 (i : Int)] w fun e w' => e = .returned (.slice (cut A ((i + 1) * c) (i * c)) c c) ∧ w' = w := by
  have h1 : i * c ≤ 255 * 255 := Nat.mul_le_mul hi2 hc
  have h2 : (i + 1) * c = i * c + c := Nat.succ_mul i c
  have hm1 : (i : Int) * (c : Int) = ((i * c : Nat) : Int) := by simp
  have hm2 : ((i : Int) + 1) * (c : Int) = ((i * c + c : Nat) : Int) := by rw [← h2]; simp
  rw [h2] at hi ⊢
  have hsl := fun W : World => run_cut_three (P := Try.prog) 22 5 Try.underlying22 sizeByte A n k (i * c) (i * c + c) (i * c + c) .i64 .i64 .i64 (by omega) (by omega) (by omega) W
  rw [show i * c + c - i * c = c from by omega] at hsl
  generalize i * c = p at *
  simp only [Int.natCast_add] at hsl
  go_enter Try.func60, Try.ntmps60
  go_wp2
  go_ret
  exact ⟨rfl, rfl⟩
theorem matNobody (g : Nat) (w : World) (h : Fld w g) : Calls Try.prog 26 #[.pointer (some ⟨g, 0, none⟩)] w fun e w' => e = .returned (.bool false) ∧ Aft g w w' := by
  go_enter Try.func26, Try.ntmps26
  go_wp2_with (go_at_call 31; refine (fldDivA g 1 1 (by decide) (by decide) w h).mono ?_; rintro e w' ⟨rfl, ha⟩; unfold pairV divA)
  go_ret
  exact ⟨rfl, ha⟩
end Cib

end
/-! RowsB -/
section
set_option linter.unusedVariables false
set_option linter.unusedSimpArgs false
set_option maxRecDepth 20000
namespace Cib
open Go Go.RowKit Go.Proofs

/-- A row: where its slice begins, its length and room, and its bytes. -/
structure RowB where
  A : Option Addr
  n : Nat
  c : Nat
  bs : List UInt8
def RowB.v (r : RowB) : Value := .slice r.A r.n r.c
/-- The row reads so. -/
structure RowB.At (w : World) (B : Nat) (r : RowB) : Prop where
  rd : Rd w B r.A (r.bs.map bv)
  len : r.bs.length = r.n
  cap : r.n ≤ r.c
  max : r.c ≤ maxLen
def RowsAt (w : World) (B : Nat) (L : List RowB) : Prop := ∀ r ∈ L, r.At w B
section
variable {w w' : World} {B B' : Nat} {r : RowB} {L L' : List RowB}
theorem RowB.At.below (h : r.At w B) (hb : Below B w w') : r.At w' B := ⟨h.rd.below hb, h.len, h.cap, h.max⟩
theorem RowB.At.more (h : r.At w B) (hB : B ≤ B') : r.At w B' := ⟨h.rd.more hB, h.len, h.cap, h.max⟩
theorem RowB.At.drewN (h : r.At w B) (n : Nat) : r.At (w.drewN n) B := ⟨h.rd.drewN n, h.len, h.cap, h.max⟩
theorem RowsAt.below (h : RowsAt w B L) (hb : Below B w w') : RowsAt w' B L := fun r hr => (h r hr).below hb
theorem RowsAt.more (h : RowsAt w B L) (hB : B ≤ B') : RowsAt w B' L := fun r hr => (h r hr).more hB
theorem RowsAt.nil : RowsAt w B [] := fun r hr => by cases hr
theorem RowsAt.append (h : RowsAt w B L) (h' : RowsAt w B L') : RowsAt w B (L ++ L') := fun r hr => by
  rcases List.mem_append.1 hr with h1 | h1
  · exact h r h1
  · exact h' r h1
theorem RowsAt.cons (h : r.At w B) (h' : RowsAt w B L) : RowsAt w B (r :: L) := fun x hx => by
  rcases List.mem_cons.1 hx with rfl | h1
  · exact h
  · exact h' x h1
theorem RowsAt.get (h : RowsAt w B L) {k : Nat} (hk : k < L.length) : L[k].At w B := h _ (List.getElem_mem hk)
theorem RowB.of_own {base : Nat} {A : Option Addr} {n c : Nat} {bs : List UInt8} (ho : w.ownsRow base 5 1 (.slice A n c) n (bs.map bv)) (hn : bs.length = n) : RowB.At w w.heap.size ⟨A, n, c, bs⟩ :=
  ⟨Rd.of_own ho, hn, (own_cap ho).1, (own_cap ho).2⟩
end
theorem one_rows {L : List RowB} : ∀ u ∈ L.map RowB.v, u.oneCell' = true := by
  intro u hu
  obtain ⟨r, _, rfl⟩ := List.mem_map.1 hu
  rfl
theorem infoRow : (Try.prog.info? 22).map (fun i => (i.zero, i.size, i.bytes)) = some (some (.slice none 0 0), 1, 24) := by kernel_rfl
theorem sizeRow : (Try.prog.info? 22).map (·.size) = some 1 := by kernel_rfl
/-- append to a slice of rows of the call's own. -/
theorem appR {ops : Array Oper} {rest : List Oper} {o : Oper} {a : Act} {Q : Exit → Act → World → Prop} (w : World) (hgd : o.guard = none) (s x : Operand)
    (ho : o.op = .call { callee := .builtin .append, args := #[s, x], argTypes := #[28, 28] })
    (base : Nat) (A0 : Option Addr) (n0 c0 : Nat) (xs : List Value) (hs : a.eval s = .slice A0 n0 c0) (hown : w.ownsRow base 22 1 (.slice A0 n0 c0) n0 xs)
    (B : Nat) (A : Option Addr) (m c : Nat) (news : List Value) (hx : a.eval x = .slice A m c) (hm : news.length = m) (hr : Rd w B A news) (h1 : ∀ u ∈ news, u.oneCell' = true)
    (hbytes : n0 + m ≤ 1000000000) (hbase : base ≤ w.heap.size)
    (h : ∀ A' c' w', w'.ownsRow base 22 1 (.slice A' (n0 + m) c') (n0 + m) (xs ++ news) → w.grownBy w' (Value.slice A0 n0 c0).ownBlock → Below base w w' → wpList Try.prog ops Q rest (a.put o.dst (.slice A' (n0 + m) c')) w') :
    wpList Try.prog ops Q (o :: rest) a w := by
  obtain ⟨i0, hi, hz0, hz1, hz2⟩ := info_parts infoRow
  exact wpList_app w hgd s x 28 ho base 22 i0 _ 24 Try.underlying28 hi hz0 hz1 hz2 rfl A0 n0 c0 xs hs hown B A m c news hx hm hr h1 (by unfold maxLen; omega) (by omega) hbase h
/-- The cell of row k. -/
theorem Rd.row {w : World} {B : Nat} {A : Option Addr} {L : List RowB} (h : Rd w B A (L.map RowB.v)) {k : Nat} (hk : k < L.length) :
    ∃ ad, A = some ad ∧ ad.block < B ∧ w.cell? (ad.add k) = some (.slice L[k].A L[k].n L[k].c) := by
  obtain ⟨ad, e, hb, hc⟩ := h (by intro e; simp at e; subst e; simp at hk)
  have := hc k (by simpa using hk)
  rw [List.getElem_map] at this
  exact ⟨ad, e, hb, this⟩
theorem own_new (w : World) {base : Nat} (e : TypeId) (cs : Array Value) {n : Nat} (hb : base ≤ w.heap.size) (hn : cs.size = n) (hm : n ≤ maxLen) {vs : List Value} (hv : cs.toList = vs) :
    (w.alloc (.cells cs e)).ownsRow base e 1 (.slice (some ⟨w.heap.size, 0, none⟩) n n) n vs := by
  subst hv hn
  exact ⟨by simp, .inr ⟨w.heap.size, cs.size, cs, rfl, hb, heap_alloc_new w _, Nat.le_refl _, hm, by simp, by rw [Nat.mul_one]; exact List.take_of_length_le (by simp)⟩⟩
theorem own_via {w w' : World} {base : Nat} {e : TypeId} {v : Value} {n : Nat} {xs : List Value} (h : w.ownsRow base e 1 v n xs) (hb : Below w.heap.size w w') : w'.ownsRow base e 1 v n xs := by
  refine ⟨h.1, ?_⟩
  rcases h.2 with h0 | ⟨g, cap, cur, rfl, h1, h2, h3⟩
  · exact .inl h0
  · have hg : g < w.heap.size := Blk.lt (t := e) (cs := cur) h2
    exact .inr ⟨g, cap, cur, rfl, h1, (hb.block g hg).trans h2, h3⟩
/-- The row reads so; it came in (its block lies below base), or is a block of bytes: in either case apart from what holds the rows' slices. -/
structure RowB.Ok (w : World) (base : Nat) (r : RowB) : Prop where
  rd : Rd w w.heap.size r.A (r.bs.map bv)
  len : r.bs.length = r.n
  cap : r.n ≤ r.c
  max : r.c ≤ maxLen
  home : ∀ ad, r.A = some ad → r.bs ≠ [] → ad.block < base ∨ ∃ cs, w.heap[ad.block]? = some (.cells cs 5 (0, 0))
def RowsOk (w : World) (base : Nat) (L : List RowB) : Prop := ∀ r ∈ L, r.Ok w base
section
variable {w w' : World} {base : Nat} {r : RowB} {L L' : List RowB}
theorem RowB.Ok.lt (h : r.Ok w base) {ad : Addr} (e : r.A = some ad) (hn : r.bs ≠ []) : ad.block < w.heap.size := by
  obtain ⟨ad', e', hb, _⟩ := h.rd (by intro x; exact hn (List.map_eq_nil_iff.1 x))
  rw [e] at e'
  injection e' with e'
  rw [e']
  exact hb
theorem RowB.Ok.below (h : r.Ok w base) (hb : Below w.heap.size w w') : r.Ok w' base :=
  ⟨(h.rd.below hb).more hb.size, h.len, h.cap, h.max, fun ad e hn => by
    rcases h.home ad e hn with h1 | ⟨cs, h1⟩
    · exact .inl h1
    · exact .inr ⟨cs, (hb.block _ (h.lt e hn)).trans h1⟩⟩
theorem RowB.Ok.drewN (h : r.Ok w base) (n : Nat) : r.Ok (w.drewN n) base := ⟨h.rd.drewN n, h.len, h.cap, h.max, h.home⟩
theorem RowB.Ok.grown {t : TypeId} {v : Value} {n : Nat} {xs : List Value} (h : r.Ok w base) (hg : w.grownBy w' v.ownBlock) (ho : w.ownsRow base t 1 v n xs) (ht : t ≠ 5) : r.Ok w' base := by
  have hne : ∀ ad, r.A = some ad → r.bs ≠ [] → v.ownBlock ≠ some ad.block := fun ad e hn he => by
    rcases h.home ad e hn with h1 | ⟨cs, h1⟩
    · have := (ho.lt _ he).1
      omega
    · rcases ho.2 with ⟨rfl, _⟩ | ⟨g, cap, cur, rfl, _, h2, _⟩
      · simp [Value.ownBlock] at he
      · simp [Value.ownBlock] at he
        subst he
        rw [h2] at h1
        injection h1 with h1
        injection h1 with _ h3
        exact ht h3
  have hk : ∀ ad, r.A = some ad → r.bs ≠ [] → w'.heap[ad.block]? = w.heap[ad.block]? := fun ad e hn => hg.block _ (h.lt e hn) (fun x => hne ad e hn x.symm)
  refine ⟨fun hn => ?_, h.len, h.cap, h.max, fun ad e hn => ?_⟩
  · have hn' : r.bs ≠ [] := fun x => hn (by rw [x]; rfl)
    obtain ⟨ad, e, hb, hc⟩ := h.rd hn
    refine ⟨ad, e, Nat.lt_of_lt_of_le hb hg.size, fun j hj => ?_⟩
    rw [← hc j hj]
    exact World.cell?_of_block (by rw [addr_add_block]; exact hk ad e hn')
  · rcases h.home ad e hn with h1 | ⟨cs, h1⟩
    · exact .inl h1
    · exact .inr ⟨cs, (hk ad e hn).trans h1⟩
theorem RowB.Ok.of_own {b : Nat} {A : Option Addr} {n c : Nat} {bs : List UInt8} (ho : w.ownsRow b 5 1 (.slice A n c) n (bs.map bv)) (hn : bs.length = n) : RowB.Ok w base ⟨A, n, c, bs⟩ :=
  ⟨Rd.of_own ho, hn, (own_cap ho).1, (own_cap ho).2, fun ad e hne => by
    rcases ho.2 with ⟨hv, h0⟩ | ⟨g, cap, cur, hv, _, h2, _⟩
    · simp only at hne
      exact absurd (List.eq_nil_of_length_eq_zero (by omega)) hne
    · injection hv with e1
      simp only at e
      rw [e] at e1
      injection e1 with e1
      rw [e1]
      exact .inr ⟨cur, h2⟩⟩
theorem RowB.At.ok (h : r.At w base) (hb : base ≤ w.heap.size) : r.Ok w base :=
  ⟨h.rd.more hb, h.len, h.cap, h.max, fun ad e hn => .inl (by
    obtain ⟨ad', e', hb', _⟩ := h.rd (by intro x; exact hn (List.map_eq_nil_iff.1 x))
    rw [e] at e'
    injection e' with e'
    rw [e']
    exact hb')⟩
theorem RowsOk.below (h : RowsOk w base L) (hb : Below w.heap.size w w') : RowsOk w' base L := fun r hr => (h r hr).below hb
theorem RowsOk.drewN (h : RowsOk w base L) (n : Nat) : RowsOk (w.drewN n) base L := fun r hr => (h r hr).drewN n
theorem RowsOk.grown {t : TypeId} {v : Value} {n : Nat} {xs : List Value} (h : RowsOk w base L) (hg : w.grownBy w' v.ownBlock) (ho : w.ownsRow base t 1 v n xs) (ht : t ≠ 5) : RowsOk w' base L :=
  fun r hr => (h r hr).grown hg ho ht
theorem RowsOk.nil : RowsOk w base [] := fun r hr => by cases hr
theorem RowsOk.append (h : RowsOk w base L) (h' : RowsOk w base L') : RowsOk w base (L ++ L') := fun r hr => by
  rcases List.mem_append.1 hr with h1 | h1
  · exact h r h1
  · exact h' r h1
theorem RowsOk.cons (h : r.Ok w base) (h' : RowsOk w base L) : RowsOk w base (r :: L) := fun x hx => by
  rcases List.mem_cons.1 hx with rfl | h1
  · exact h
  · exact h' x h1
theorem RowsOk.get (h : RowsOk w base L) {k : Nat} (hk : k < L.length) : L[k].Ok w base := h _ (List.getElem_mem hk)
end
theorem rowNe : 22 ≠ 5 := by decide
end Cib

end
/-! MatT -/
section
set_option linter.unusedVariables false
set_option linter.unusedSimpArgs false
set_option maxRecDepth 40000
namespace Cib
open Go Go.RowKit Go.Proofs
/-- The cells of the bytes that were met. -/
def metC (s : List UInt8) : Array Value := ((List.range 256).map fun v => Value.bool (decide (UInt8.ofNat v ∈ s))).toArray
theorem metC_get (s : List UInt8) (c : UInt8) : (metC s)[c.toNat]? = some (.bool (decide (c ∈ s))) := by
  have h := c.toNat_lt
  have h2 : c.toNat < 256 := h
  simp [metC, h2]
theorem metC_set (s : List UInt8) (c : UInt8) : (metC s).setIfInBounds c.toNat (.bool true) = metC (s ++ [c]) := by
  apply Array.ext
  · simp [metC]
  · intro i h1 h2
    have hi : i < 256 := by simpa [metC] using h2
    rw [Array.getElem_setIfInBounds (by simpa [metC] using hi)]
    by_cases hc : c.toNat = i
    · subst hc
      simp [metC]
    · rw [if_neg hc]
      have hne : ¬ UInt8.ofNat i = c := by
        intro e
        apply hc
        rw [← e, UInt8.toNat_ofNat']
        exact Nat.mod_eq_of_lt hi
      simp [metC, hne]
theorem metC_nil : metC [] = Array.replicate 256 (.bool false) := by
  apply Array.ext
  · simp [metC]
  · intro i h1 h2
    simp [metC]
/-- The bytes of rows, one behind the other. -/
def flat (L : List RowB) : List UInt8 := L.flatMap (·.bs)
theorem flat_take {L : List RowB} {i : Nat} (h : i < L.length) : flat (L.take (i + 1)) = flat (L.take i) ++ L[i].bs := by
  unfold flat
  rw [List.take_succ_eq_append_getElem h, List.flatMap_append]
  simp
theorem flat_all (L : List RowB) : flat (L.take L.length) = flat L := by rw [List.take_length]
theorem dup_split {l r : List UInt8} (h : ¬ l.Nodup) : ¬ (l ++ r).Nodup := fun h' => h (List.nodup_append.1 h').1
theorem flat_split (L : List RowB) (i : Nat) : flat L = flat (L.take i) ++ flat (L.drop i) := by
  unfold flat
  rw [← List.flatMap_append, List.take_append_drop]
theorem nodup_snoc {l : List UInt8} {c : UInt8} (h : l.Nodup) (hc : c ∉ l) : (l ++ [c]).Nodup := by
  rw [List.nodup_append]
  refine ⟨h, by simp, ?_⟩
  intro a ha b hb
  rw [List.mem_singleton] at hb
  subst hb
  intro e
  subst e
  exact hc ha
theorem nodup_hit {l r : List UInt8} {c : UInt8} (hc : c ∈ l) : ¬ (l ++ c :: r).Nodup := by
  intro h
  rw [List.nodup_append] at h
  exact h.2.2 c hc c (by simp) rfl
theorem matTwice (L : List RowB) (B : Nat) (A : Option Addr) (n k : Nat) (w : World) (hr : Rd w B A (L.map RowB.v)) (hR : RowsAt w B L) (hB : B ≤ w.heap.size) (hn : L.length = n) (hn2 : n ≤ 1000000) (hm : ∀ r ∈ L, r.n ≤ 1000000000) :
    Calls Try.prog 28 #[.slice A n k] w fun e w' => (∃ x, e = .returned (.bool x) ∧ (x = false ↔ (flat L).Nodup)) ∧ Below w.heap.size w w' := by
  have HR := Lib.hid hr
  have HRR := Lib.hid hR
  have HL := Lib.hid hn
  have HM := Lib.hid hm
  clear hr hR hn hm
  go_enter Try.func28, Try.ntmps28
  go_wp2
  have hz : Try.zeroCells101 = metC [] := by kernel_rfl
  go_loopw [5, 7, 10] (fun _ _ i wr => ∃ p : Nat, i = .int .i64 p ∧ p ≤ n ∧ Hid ((flat (L.take p)).Nodup) ∧ Hid (Blk wr w.heap.size 101 (metC (flat (L.take p)))) ∧ Hid (Below w.heap.size w wr)) (fun _ _ i _ => n - (intOf i).toNat)
  case atStart =>
    refine ⟨0, rfl, Nat.zero_le _, by (show List.Nodup _; simp [flat]), ?_, (Below.refl _ _).alloc (Nat.le_refl _) _⟩
    show Blk _ _ _ _
    rw [hz]
    exact Blk.new _ _ _
  case round =>
    obtain ⟨p, rfl, hp, hnd, hbk, hbl⟩ := hrel
    clear hz
    by_cases hlt : p < n
    · have hpl : p < L.length := by rw [HL.out]; exact hlt
      obtain ⟨ad, rfl, hab, hcell⟩ := (HR.out.below (hbl.out.mono hB)).row hpl
      have hRp := HRR.out.get hpl
      have hmp := HM.out _ (List.getElem_mem hpl)
      have HFT := Lib.hid (flat_take hpl)
      have HSP := Lib.hid (flat_split L (p + 1))
      have hlen := hRp.len
      have HRP := Lib.hid hRp.rd
      clear hRp
      generalize L[p] = r at *
      obtain ⟨rA, rn, rc, bs⟩ := r
      simp only at hcell hmp hlen HFT HRP
      have HLEN := Lib.hid hlen
      clear hlen
      generalize flat (L.take p) = s at *
      go_wp2
      go_loopw [7, 16] (fun _ i w2 => ∃ q : Nat, i = .int .i64 q ∧ q ≤ rn ∧ Hid ((s ++ bs.take q).Nodup) ∧ Hid (Blk w2 w.heap.size 101 (metC (s ++ bs.take q))) ∧ Hid (Below w.heap.size w w2)) (fun _ i _ => rn - (intOf i).toNat)
      case atStart => exact ⟨0, rfl, Nat.zero_le _, by simpa using hnd, by simpa using hbk, hbl⟩
      case round =>
        obtain ⟨q, rfl, hq, hnd2, hbk2, hbl2⟩ := hrel
        by_cases hlq : q < rn
        · have hql : q < bs.length := by rw [HLEN.out]; exact hlq
          have HT := Lib.hid (List.take_succ_eq_append_getElem hql)
          obtain ⟨ad2, rfl, hab2, hcell2⟩ := (HRP.out.below (hbl2.out.mono hB)).byte hql
          have hmc := (hbk2.out.cell bs[q].toNat).trans (metC_get _ _)
          have hfr := hbk2.out.frozen bs[q].toNat
          have hc8 := bs[q].toNat_lt
          have HDR := Lib.hid (List.drop_eq_getElem_cons hql)
          have HS := Lib.hid (hbk2.out.set bs[q].toNat (.bool true))
          rw [metC_set, List.append_assoc] at HS
          have HB := Lib.hid (hbl2.out.setCell (p := ⟨w.heap.size, bs[q].toNat, none⟩) (Nat.le_refl _) (.bool true))
          by_cases hin : bs[q] ∈ s ++ bs.take q
          · rw [decide_eq_true hin] at hmc
            have HIN := Lib.hid hin
            clear hin
            go_wp2
            go_ret
            refine ⟨⟨true, rfl, ?_⟩, hbl2.out⟩
            simp only [Bool.true_eq_false, false_iff]
            rw [HSP.out, HFT.out]
            refine dup_split ?_
            rw [← List.take_append_drop q bs, HDR.out, ← List.append_assoc]
            exact nodup_hit HIN.out
          · rw [decide_eq_false hin] at hmc
            have HND := Lib.hid (nodup_snoc hnd2.out hin)
            clear hin
            go_wp2
            go_roundw
            case rel => exact ⟨q + 1, by go_num, hlq, by (show List.Nodup _; rw [HT.out, ← List.append_assoc]; exact HND.out), by (show Blk _ _ _ _; rw [HT.out]; exact HS.out), HB⟩
            case measure => simp [intOf]; omega
        · obtain rfl : q = rn := by omega
          have HTA : Hid (bs.take q = bs) := (show _ = _ from List.take_of_length_le (by rw [HLEN.out]; exact Nat.le_refl _))
          rw [HTA.out, ← HFT.out] at hnd2 hbk2
          go_wp2
          go_roundw
          case rel => exact ⟨p + 1, by go_num, hlt, hnd2, hbk2, hbl2⟩
          case measure => simp [intOf]; omega
    · obtain rfl : p = n := by omega
      have HFA : Hid (flat (L.take p) = flat L) := (show _ = _ by rw [← HL.out]; exact flat_all L)
      rw [HFA.out] at hnd
      go_wp2
      go_ret
      exact ⟨⟨false, rfl, by simpa using hnd.out⟩, hbl.out⟩
end Cib

end
/-! Ty -/
section
set_option linter.unusedVariables false
set_option linter.unusedSimpArgs false
namespace Cib
open Go Go.RowKit Go.Proofs
/-- A block's type. -/
def Ty (w : World) (k : Nat) (t : TypeId) : Prop := ∃ cs fr, w.heap[k]? = some (.cells cs t fr)
/-- All blocks of cells but those of some types stay as they are. -/
def Same (ts : List TypeId) (w w' : World) : Prop := ∀ k t, Ty w k t → t ∉ ts → w'.heap[k]? = w.heap[k]?
section
variable {w w' w'' : World} {B : Nat}
theorem Ty.lt {k t} (h : Ty w k t) : k < w.heap.size := by
  obtain ⟨cs, fr, h⟩ := h
  exact (Array.getElem?_eq_some_iff.1 h).1
theorem Ty.one {k t t'} (h : Ty w k t) (h' : Ty w k t') : t = t' := by
  obtain ⟨cs, fr, h⟩ := h
  obtain ⟨cs', fr', h'⟩ := h'
  rw [h] at h'
  injection h' with h'
  injection h'
theorem Ty.same {k t ts} (h : Ty w k t) (hs : Same ts w w') (ht : t ∉ ts) : Ty w' k t := by
  have e := hs k t h ht
  obtain ⟨cs, fr, h⟩ := h
  exact ⟨cs, fr, e.trans h⟩
theorem Ty.below {k t} (h : Ty w k t) (hb : Below w.heap.size w w') : Ty w' k t := by
  have e := hb.block k h.lt
  obtain ⟨cs, fr, h⟩ := h
  exact ⟨cs, fr, e.trans h⟩
theorem Same.refl (ts : List TypeId) (w : World) : Same ts w w := fun _ _ _ _ => rfl
theorem Same.trans {ts} (h : Same ts w w') (h' : Same ts w' w'') : Same ts w w'' := fun k t hk ht => by
  have e := h k t hk ht
  obtain ⟨cs, fr, hk'⟩ := hk
  exact (h' k t ⟨cs, fr, e.trans hk'⟩ ht).trans e
theorem Same.below {ts} (h : Below w.heap.size w w') : Same ts w w' := fun k t hk _ => h.block k hk.lt
theorem Same.more {ts us : List TypeId} (h : Same ts w w') (hs : ∀ t ∈ ts, t ∈ us) : Same us w w' := fun k t hk ht => h k t hk fun h' => ht (hs t h')
theorem Same.drewN {ts} (h : Same ts w w') (q : Nat) : Same ts w (w'.drewN q) := h
theorem own_block {b k n c s : Nat} {e : TypeId} {o : Nat} {sp} {xs : List Value} (h : w.ownsRow b e s (.slice (some ⟨k, o, sp⟩) n c) n xs) : Ty w k e := by
  rcases h.2 with ⟨h0, _⟩ | ⟨g, cap, cur, hv, _, h2, _⟩
  · cases h0
  · injection hv with e1
    injection e1 with e1
    injection e1 with e1
    subst e1
    exact ⟨_, _, h2⟩
theorem own_blockV {b k s : Nat} {e : TypeId} {v : Value} {n : Nat} {xs : List Value} (h : w.ownsRow b e s v n xs) (hk : v.ownBlock = some k) : Ty w k e ∧ b ≤ k := by
  rcases h.2 with ⟨rfl, _⟩ | ⟨g, cap, cur, rfl, h1, h2, _⟩
  · simp [Value.ownBlock] at hk
  · simp [Value.ownBlock] at hk
    subst hk
    exact ⟨⟨_, _, h2⟩, h1⟩
theorem Blk.ty {k t cs} (h : Blk w k t cs) : Ty w k t := ⟨_, _, h⟩
theorem Blk.same {k t cs ts} (h : Blk w k t cs) (hs : Same ts w w') (ht : t ∉ ts) : Blk w' k t cs := (hs k t h.ty ht).trans h
theorem own_same {b s : Nat} {e : TypeId} {v : Value} {n : Nat} {xs : List Value} {ts} (h : w.ownsRow b e s v n xs) (hs : Same ts w w') (ht : e ∉ ts) : w'.ownsRow b e s v n xs := by
  refine ⟨h.1, ?_⟩
  rcases h.2 with h0 | ⟨g, cap, cur, hv, h1, h2, h3⟩
  · exact .inl h0
  · exact .inr ⟨g, cap, cur, hv, h1, (hs g e ⟨_, _, h2⟩ ht).trans h2, h3⟩
theorem own_belowS {b s : Nat} {e : TypeId} {v : Value} {n : Nat} {xs : List Value} (h : w.ownsRow b e s v n xs) (hb : Below w.heap.size w w') : w'.ownsRow b e s v n xs := own_same (ts := []) h (Same.below hb) (by simp)
theorem own_lowerS {b b' s : Nat} {e : TypeId} {v : Value} {n : Nat} {xs : List Value} (h : w.ownsRow b e s v n xs) (hb : b' ≤ b) : w.ownsRow b' e s v n xs := by
  refine ⟨h.1, ?_⟩
  rcases h.2 with h0 | ⟨g, cap, cur, hv, h1, h2⟩
  · exact .inl h0
  · exact .inr ⟨g, cap, cur, hv, Nat.le_trans hb h1, h2⟩
theorem own_capS {b s : Nat} {e : TypeId} {A : Option Addr} {n c : Nat} {vs : List Value} (h : w.ownsRow b e s (.slice A n c) n vs) : n ≤ c ∧ c ≤ maxLen := by
  rcases h.2 with ⟨hv, h0⟩ | ⟨g, cp, cur, hv, _, _, h1, h2, _⟩
  · injection hv with _ _ hc
    subst hc
    subst h0
    exact ⟨Nat.le_refl _, Nat.zero_le _⟩
  · injection hv with _ _ hc
    subst hc
    exact ⟨h1, h2⟩
theorem Same.grown {ts} {v : Value} {b s n : Nat} {e : TypeId} {xs : List Value} (h : w.ownsRow b e s v n xs) (hg : w.grownBy w' v.ownBlock) (he : e ∈ ts) : Same ts w w' := fun k t hk ht =>
  hg.block k hk.lt fun ek => ht (by rw [hk.one (own_blockV h ek.symm).1]; exact he)
theorem Same.setCell {ts} {g i : Nat} {t : TypeId} {cs : Array Value} (h : Blk w g t cs) (ht : t ∈ ts) (u : Value) : Same ts w (w.setCell ⟨g, i, none⟩ u) := fun k t' hk ht' =>
  heap_setCell_other w ⟨g, i, none⟩ k u fun ek => ht' (by
    have ek' : k = g := ek
    subst ek'
    rw [hk.one h.ty]
    exact ht)
theorem Rd.same {A : Option Addr} {vs : List Value} {ts t} (h : Rd w B A vs) (hs : Same ts w w') (ht : t ∉ ts) (hA : ∀ ad, A = some ad → Ty w ad.block t) : Rd w' B A vs := fun hn => by
  obtain ⟨ad, rfl, hb, hc⟩ := h hn
  have hty := hA ad rfl
  refine ⟨ad, rfl, hb, fun j hj => ?_⟩
  have e : w'.heap[(ad.add j).block]? = w.heap[(ad.add j).block]? := by
    have := hs _ _ hty ht
    rwa [addr_add_block]
  exact (World.cell?_of_block e).trans (hc j hj)
theorem Rd.of_ownS {b n c s : Nat} {e : TypeId} {A : Option Addr} {vs : List Value} (h : w.ownsRow b e s (.slice A n c) n vs) : Rd w w.heap.size A vs := fun hn => by
  rcases h.2 with ⟨hv, h0⟩ | ⟨g, cp, cur, hv, h1, h2, h3, h4, h5, h6⟩
  · have : vs.length = 0 := by rw [h.1, h0, Nat.zero_mul]
    exact absurd (List.eq_nil_of_length_eq_zero this) hn
  · injection hv with hA hn' hc
    subst hA
    refine ⟨_, rfl, (Array.getElem?_eq_some_iff.1 h2).1, fun j hj => ?_⟩
    have hj' := hj
    rw [h.1] at hj'
    have ea : (⟨g, 0, none⟩ : Addr).add j = ⟨g, j, none⟩ := by
      unfold Addr.add
      split
      · simp_all
      · simp
    rw [ea, cell_of_row w g j cur e (0, 0) h2]
    have hl : j < cur.size := by
      rw [h5]
      exact Nat.lt_of_lt_of_le hj' (Nat.mul_le_mul_right _ h3)
    rw [Array.getElem?_eq_getElem hl]
    congr 1
    have : vs[j] = (cur.toList.take (n * s))[j]'(by rw [h6]; exact hj) := by simp only [h6]
    rw [this, List.getElem_take]
    simp
end
section
variable {P : Program} {w : World}
/-- append of elements of s cells each to a slice of the call's own. -/
theorem run_appS (base s : Nat) (t ty e : TypeId) (i : TypeInfo) (z : Value) (bytes : Nat) (ht : P.underlying t = some (.slice e)) (hi : P.info? e = some i) (hz : i.zero = some z)
    (hsize : i.size = s) (hby : i.bytes = bytes) (hzs : z.cells.size = s) (h0s : 0 < s)
    (A0 : Option Addr) (n0 c0 : Nat) (xs : List Value) (hown : w.ownsRow base e s (.slice A0 n0 c0) n0 xs)
    (B : Nat) (ad : Addr) (m c : Nat) (news : List Value) (hm : news.length = m * s) (hr : Rd w B (some ad) news) (h1 : ∀ u ∈ news, u.oneCell' = true)
    (h63 : n0 + m ≤ maxLen) (hbytes : (n0 + m) * bytes ≤ 140737488355328) (hbase : base ≤ w.heap.size) :
    ∃ A' c' w', (Builtin.append_ #[t, t] ty #[.slice A0 n0 c0, .slice (some ad) m c]).run P w = .ok (.slice A' (n0 + m) c') w' ∧ w'.ownsRow base e s (.slice A' (n0 + m) c') (n0 + m) (xs ++ news) ∧
      w.grownBy w' (Value.slice A0 n0 c0).ownBlock ∧ Below base w w' := by
  have hcells : ∀ j u, news[j]? = some u → w.cell? (ad.add j) = some u := by
    intro j u hu
    obtain ⟨hj, he⟩ := List.getElem?_eq_some_iff.1 hu
    obtain ⟨ad', h, _, hc⟩ := hr (by rintro rfl; simp at hj)
    injection h with h
    subst h
    rw [hc j hj, he]
  obtain ⟨v', w', hrun, h2, h3, _, _⟩ := run_append_own_at (P := P) w base t ty e i z s bytes ht hi hz hsize hby hzs h0s _ n0 xs hown ad m c news hm hcells h1 h63 hbytes hbase
  have hf : ∃ A' c', v' = .slice A' (n0 + m) c' := by
    rcases Joins.ownsRow_forms h2 with ⟨rfl, h0⟩ | ⟨g, cap, rfl⟩
    · exact ⟨none, 0, by rw [h0]⟩
    · exact ⟨_, _, rfl⟩
  obtain ⟨A', c', rfl⟩ := hf
  exact ⟨A', c', w', hrun, h2, h3, (Below.refl base w).grown h3 hbase fun k hk => (hown.lt k hk).1⟩
theorem wp_appS {o : Oper} {a : Act} {K : Act → World → Prop} {Q : Exit → Act → World → Prop} (s x : Operand) (t : TypeId)
    (ho : o.op = .call { callee := .builtin .append, args := #[s, x], argTypes := #[t, t] })
    (base sz : Nat) (e : TypeId) (i : TypeInfo) (z : Value) (bytes : Nat) (ht : P.underlying t = some (.slice e)) (hi : P.info? e = some i) (hz : i.zero = some z)
    (hsize : i.size = sz) (hby : i.bytes = bytes) (hzs : z.cells.size = sz) (h0s : 0 < sz)
    (A0 : Option Addr) (n0 c0 : Nat) (xs : List Value) (hs : a.eval s = .slice A0 n0 c0) (hown : w.ownsRow base e sz (.slice A0 n0 c0) n0 xs)
    (B : Nat) (ad : Addr) (m c : Nat) (news : List Value) (hx : a.eval x = .slice (some ad) m c) (hm : news.length = m * sz) (hr : Rd w B (some ad) news) (h1 : ∀ u ∈ news, u.oneCell' = true)
    (h63 : n0 + m ≤ maxLen) (hbytes : (n0 + m) * bytes ≤ 140737488355328) (hbase : base ≤ w.heap.size)
    (h : ∀ A' c' w', w'.ownsRow base e sz (.slice A' (n0 + m) c') (n0 + m) (xs ++ news) → w.grownBy w' (Value.slice A0 n0 c0).ownBlock → Below base w w' → K (a.put o.dst (.slice A' (n0 + m) c')) w') :
    o.wp P a w K Q := by
  obtain ⟨A', c', w', hrun, h2, h3, h4⟩ := run_appS (P := P) (w := w) base sz t o.type e i z bytes ht hi hz hsize hby hzs h0s A0 n0 c0 xs hown B ad m c news hm hr h1 h63 hbytes hbase
  unfold Oper.wp execOp
  simp only [ho, resolve, invoke, builtin, Sem.run_bind, Sem.run_pure, Result.andThen_ok, List.map_toArray, List.map_cons, List.map_nil, hs, hx, hrun]
  exact h A' c' w' h2 h3 h4
theorem wpList_appS {ops : Array Oper} {rest : List Oper} {o : Oper} {a : Act} {Q : Exit → Act → World → Prop} (hgd : o.guard = none) (s x : Operand) (t : TypeId)
    (ho : o.op = .call { callee := .builtin .append, args := #[s, x], argTypes := #[t, t] })
    (base sz : Nat) (e : TypeId) (i : TypeInfo) (z : Value) (bytes : Nat) (ht : P.underlying t = some (.slice e)) (hi : P.info? e = some i) (hz : i.zero = some z)
    (hsize : i.size = sz) (hby : i.bytes = bytes) (hzs : z.cells.size = sz) (h0s : 0 < sz)
    (A0 : Option Addr) (n0 c0 : Nat) (xs : List Value) (hs : a.eval s = .slice A0 n0 c0) (hown : w.ownsRow base e sz (.slice A0 n0 c0) n0 xs)
    (B : Nat) (ad : Addr) (m c : Nat) (news : List Value) (hx : a.eval x = .slice (some ad) m c) (hm : news.length = m * sz) (hr : Rd w B (some ad) news) (h1 : ∀ u ∈ news, u.oneCell' = true)
    (h63 : n0 + m ≤ maxLen) (hbytes : (n0 + m) * bytes ≤ 140737488355328) (hbase : base ≤ w.heap.size)
    (h : ∀ A' c' w', w'.ownsRow base e sz (.slice A' (n0 + m) c') (n0 + m) (xs ++ news) → w.grownBy w' (Value.slice A0 n0 c0).ownBlock → Below base w w' → wpList P ops Q rest (a.put o.dst (.slice A' (n0 + m) c')) w') :
    wpList P ops Q (o :: rest) a w :=
  wpList_plain hgd fun K hK => wp_appS s x t ho base sz e i z bytes ht hi hz hsize hby hzs h0s A0 n0 c0 xs hs hown B ad m c news hx hm hr h1 h63 hbytes hbase (fun A' c' w' h2 h3 h4 => hK _ _ (h A' c' w' h2 h3 h4))
/-- append of a slice of elements of one cell, where it stands in a region. -/
theorem wp_app1 {o : Oper} {a : Act} {K : Act → World → Prop} {Q : Exit → Act → World → Prop} (s x : Operand) (t : TypeId)
    (ho : o.op = .call { callee := .builtin .append, args := #[s, x], argTypes := #[t, t] })
    (base : Nat) (e : TypeId) (i : TypeInfo) (z : Value) (bytes : Nat) (ht : P.underlying t = some (.slice e)) (hi : P.info? e = some i) (hz : i.zero = some z)
    (hsize : i.size = 1) (hby : i.bytes = bytes) (hzs : z.cells.size = 1)
    (A0 : Option Addr) (n0 c0 : Nat) (xs : List Value) (hs : a.eval s = .slice A0 n0 c0) (hown : w.ownsRow base e 1 (.slice A0 n0 c0) n0 xs)
    (B : Nat) (A : Option Addr) (m c : Nat) (news : List Value) (hx : a.eval x = .slice A m c) (hm : news.length = m) (hr : Rd w B A news) (h1 : ∀ u ∈ news, u.oneCell' = true)
    (h63 : n0 + m ≤ maxLen) (hbytes : (n0 + m) * bytes ≤ 140737488355328) (hbase : base ≤ w.heap.size)
    (h : ∀ A' c' w', w'.ownsRow base e 1 (.slice A' (n0 + m) c') (n0 + m) (xs ++ news) → w.grownBy w' (Value.slice A0 n0 c0).ownBlock → Below base w w' → K (a.put o.dst (.slice A' (n0 + m) c')) w') :
    o.wp P a w K Q := by
  obtain ⟨A', c', w', hrun, h2, h3, h4⟩ := run_app (P := P) w base t o.type e i z bytes ht hi hz hsize hby hzs A0 n0 c0 xs hown B A m c news hm hr h1 h63 hbytes hbase
  unfold Oper.wp execOp
  simp only [ho, resolve, invoke, builtin, Sem.run_bind, Sem.run_pure, Result.andThen_ok, List.map_toArray, List.map_cons, List.map_nil, hs, hx, hrun]
  exact h A' c' w' h2 h3 h4
end
end Cib

end
/-! MatF -/
section
set_option linter.unusedVariables false
set_option linter.unusedSimpArgs false
set_option maxRecDepth 40000
namespace Cib
open Go Go.RowKit Go.Proofs
/-- The first numbers of a matrix of so many columns, row by row. -/
def tabN (cols : Nat) (val : Nat → Nat → UInt8) (p : Nat) : List UInt8 := (List.range p).map fun q => val (q / cols) (q % cols)
theorem tabN_length (cols : Nat) (val : Nat → Nat → UInt8) (p : Nat) : (tabN cols val p).length = p := by simp [tabN]
theorem tabN_next (cols : Nat) (val : Nat → Nat → UInt8) {i j : Nat} (h : j < cols) : tabN cols val (i * cols + (j + 1)) = tabN cols val (i * cols + j) ++ [val i j] := by
  unfold tabN
  rw [← Nat.add_assoc, List.range_succ, List.map_append]
  have h1 : (i * cols + j) / cols = i := by
    rw [Nat.mul_comm, Nat.mul_add_div (by omega)]
    simp [Nat.div_eq_of_lt h]
  have h2 : (i * cols + j) % cols = j := by
    rw [Nat.mul_comm, Nat.mul_add_mod]
    exact Nat.mod_eq_of_lt h
  simp [h1, h2]
theorem tabN_get (cols : Nat) (val : Nat → Nat → UInt8) (p : Nat) {q : Nat} (h : q < (tabN cols val p).length) : (tabN cols val p)[q] = val (q / cols) (q % cols) := by simp [tabN]
theorem matInfo3 : (Try.prog.info? 45).map (·.size) = some 3 := by kernel_rfl
theorem mv_one (r c : Int) (A : Option Addr) (n k : Nat) : (mv r c A n k).all (·.oneCell') = true := by simp [mv, Value.oneCell']
theorem own_setRow {w : World} {base : Nat} {e : TypeId} {v : Value} {n : Nat} {xs : List Value} (h : w.ownsRow base e 1 v n xs) {g : Nat} (hg : v.ownBlock ≠ some g) (cs : Array Value) : (w.setRow g cs).ownsRow base e 1 v n xs := by
  refine ⟨h.1, ?_⟩
  rcases h.2 with h0 | ⟨k, cap, cur, rfl, h1, h2, h3⟩
  · exact .inl h0
  · exact .inr ⟨k, cap, cur, rfl, h1, (setRow_other w g k cs (fun e => hg (by subst e; simp [Value.ownBlock]))).trans h2, h3⟩
/-- Two results, the first a struct in memory. -/
theorem results_mat2 {P : Program} {fn : Func} {p t : Tmp} {ty : TypeId} (h : fn.results = #[.cell p ty, .tmp t]) (tmps : Array Value) (w : World) (g : Nat) (te : TypeId) (cs : Array Value) (fr : Nat × Nat) (d : TypeDesc)
    (hp : tmps.getD p undef = .pointer (some ⟨g, 0, none⟩)) (hg : w.heap[g]? = some (.cells cs te fr))
    (hu : P.underlying ty = some d) (hd : (match d with | .struct _ | .array _ _ => true | _ => false) = true) (hi : (P.info? ty).map (·.size) = some cs.size) :
    (results fn tmps).run P w = .ok (.tuple #[.agg cs, tmps.getD t undef]) w := by
  have hp' : tmps[p]?.getD undef = .pointer (some ⟨g, 0, none⟩) := by simpa using hp
  simp [results, h, hp', asAddr, run_loadVar_row w g te ty cs fr d hg hu hd hi]
/-- filled under way. -/
structure FlI (w : World) (rows cols : Nat) (val : Nat → Nat → UInt8) (q : Nat) (A : Option Addr) (c : Nat) (wr : World) : Prop where
  blk : Blk wr (w.heap.size + 1 + 1) 45 (mv rows cols A q c)
  own : wr.ownsRow w.heap.size 5 1 (.slice A q c) q ((tabN cols val q).map bv)
  below : Below w.heap.size w wr
  res : Blk wr w.heap.size 45 (mv 0 0 none 0 0)
theorem FlI.kept {w wr w2 w3 : World} {rows cols : Nat} {val : Nat → Nat → UInt8} {n : Nat} {A : Option Addr} {c : Nat} (h : FlI w rows cols val n A c wr)
    (hb2 : Below wr.heap.size wr w2) {b : Value} (hg : (w2.alloc (.cells #[b] 5)).grownBy w3 (Value.slice A n c).ownBlock) {k t cs} (hk : Blk wr k t cs) (ht : t ≠ 5) : Blk w3 k t cs := by
  have ho2 := own_via h.own hb2
  have h2 := hk.below hb2 hk.lt
  have hne : (Value.slice A n c).ownBlock ≠ some k := by
    intro he
    rcases ho2.2 with ⟨h0, _⟩ | ⟨g, cap, cur, hv, _, h2', _⟩
    · injection h0 with h0
      subst h0
      simp [Value.ownBlock] at he
    · injection hv with h0
      subst h0
      simp [Value.ownBlock] at he
      subst he
      exact ht (Ty.one (w := w2) ⟨_, _, h2⟩ ⟨_, _, h2'⟩)
  exact (hg.block k (by simp; have := h2.lt; omega) (fun e => hne e.symm)).trans (h2.alloc _)
theorem FlI.push {w wr w2 w3 : World} {rows cols : Nat} {val : Nat → Nat → UInt8} {i j : Nat} {A A3 : Option Addr} {c c3 : Nat} (h : FlI w rows cols val (i * cols + j) A c wr) (hj : j < cols)
    (hb2 : Below wr.heap.size wr w2) {b : Value} (hb : b = bv (val i j))
    (ho : w3.ownsRow w.heap.size 5 1 (.slice A3 (i * cols + j + 1) c3) (i * cols + j + 1) ((tabN cols val (i * cols + j)).map bv ++ [b])) (hg : (w2.alloc (.cells #[b] 5)).grownBy w3 (Value.slice A (i * cols + j) c).ownBlock) (hbl : Below w.heap.size (w2.alloc (.cells #[b] 5)) w3) :
    FlI w rows cols val (i * cols + (j + 1)) A3 c3 (w3.setCell ⟨w.heap.size + 1 + 1, 2, none⟩ (.slice A3 (i * cols + j + 1) c3)) := by
  have hB := h.kept hb2 hg h.blk (by decide)
  have hR := h.kept hb2 hg h.res (by decide)
  subst hb
  have hbw : Below w.heap.size w w3 := ((h.below.trans (hb2.mono h.below.size)).alloc (Nat.le_trans h.below.size hb2.size) _).trans hbl
  refine ⟨?_, ?_, hbw.setCell (by show _ ≤ w.heap.size + 1 + 1; omega) _, hR.far (by show _ ≠ w.heap.size + 1 + 1; omega) _⟩
  · exact hB.set 2 _
  · rw [tabN_next cols val hj, List.map_append]
    have hnb : (Value.slice A3 (i * cols + j + 1) c3).ownBlock ≠ some (w.heap.size + 1 + 1) := by
      intro he
      rcases ho.2 with ⟨h0, _⟩ | ⟨g, cap, cur, hv, _, h2, _⟩
      · omega
      · injection hv with h0
        subst h0
        simp [Value.ownBlock] at he
        subst he
        exact absurd (Ty.one (w := w3) ⟨_, _, hB⟩ ⟨_, _, h2⟩) (by decide)
    exact ownsRow_setCell_other ho hnb _
theorem wp_appB {w : World} {o : Oper} {a : Act} {K : Act → World → Prop} {Q : Exit → Act → World → Prop} (s x : Operand)
    (ho : o.op = .call { callee := .builtin .append, args := #[s, x], argTypes := #[22, 22] })
    (base : Nat) (A0 : Option Addr) (n0 c0 : Nat) (xs : List Value) (hs : a.eval s = .slice A0 n0 c0) (hown : w.ownsRow base 5 1 (.slice A0 n0 c0) n0 xs)
    (B : Nat) (A : Option Addr) (m c : Nat) (news : List Value) (hx : a.eval x = .slice A m c) (hm : news.length = m) (hr : Rd w B A news) (h1 : ∀ u ∈ news, u.oneCell' = true)
    (hbytes : n0 + m ≤ 140737488355328) (hbase : base ≤ w.heap.size)
    (h : ∀ A' c' w', w'.ownsRow base 5 1 (.slice A' (n0 + m) c') (n0 + m) (xs ++ news) → w.grownBy w' (Value.slice A0 n0 c0).ownBlock → Below base w w' → K (a.put o.dst (.slice A' (n0 + m) c')) w') :
    o.wp Try.prog a w K Q := by
  obtain ⟨i0, hi, hz0, hz1, hz2⟩ := info_parts infoByte
  obtain ⟨A', c', w', hrun, h2, h3, h4⟩ := run_app (P := Try.prog) w base 22 o.type 5 i0 _ 1 Try.underlying22 hi hz0 hz1 hz2 rfl A0 n0 c0 xs hown B A m c news hm hr h1 (by unfold maxLen; omega) (by omega) hbase
  unfold Oper.wp execOp
  simp only [ho, resolve, invoke, builtin, Sem.run_bind, Sem.run_pure, Result.andThen_ok, List.map_toArray, List.map_cons, List.map_nil, hs, hx, hrun]
  exact h A' c' w' h2 h3 h4
set_option maxHeartbeats 1600000 in
theorem matFilled (fn : Nat) (caps : Array Value) (rows cols : Nat) (hr : rows ≤ 255) (hc : cols ≤ 255) (val : Nat → Nat → UInt8) (w : World) (hent : ∀ (a : Array Value) (W : World), (callFunc fn a).run Try.prog W = .ok (.enter fn a) W)
    (H : ∀ i j, i < rows → j < cols → ∀ W, Below w.heap.size w W → Calls Try.prog fn (#[.int .i64 (i : Int), .int .i64 (j : Int)] ++ caps) W fun e W' => e = .returned (.int .u8 ((val i j).toNat : Int)) ∧ Below W.heap.size W W') :
    Calls Try.prog 29 #[.int .i64 (rows : Int), .int .i64 (cols : Int), .func (.func fn) #[] caps] w fun e w' =>
      ∃ A c, e = .returned (.agg (mv rows cols A (rows * cols) c)) ∧ w'.ownsRow w.heap.size 5 1 (.slice A (rows * cols) c) (rows * cols) ((tabN cols val (rows * cols)).map bv) ∧ Below w.heap.size w w' := by
  have HH := Lib.hid H
  clear H
  obtain ⟨T, hT⟩ : ∃ T, rows * cols = T := ⟨_, rfl⟩
  have hT2 : T ≤ 65025 := by rw [← hT]; exact Nat.mul_le_mul hr hc
  have hmul : (rows : Int) * (cols : Int) = (T : Int) := by rw [← hT]; simp
  have hmk := @makeB
  obtain ⟨i0, hi, hz0, hz1, hz2⟩ := info_parts infoByte
  have hmk2 : ∀ W : World, (Instr.makeSlice 22 (.int .i64 0) (.int .i64 (T : Int))).run Try.prog W = .ok (.slice (some ⟨W.heap.size, 0, none⟩) 0 T) (W.alloc (.cells (madeCells #[.int .u8 0] T) 5)) := fun W => by
    have := run_make (P := Try.prog) W 22 5 i0 (.int .u8 0) Try.underlying22 hi hz0 .i64 .i64 0 (T : Int) (by omega) (by omega) (by rw [hz2]; omega) (by omega)
    rw [hz1, Nat.mul_one, Int.toNat_natCast] at this
    exact this
  have HT := Lib.hid hT
  clear hT hmk
  go_enter Try.func29, Try.ntmps29
  go_wp2
  go_loopw [8, 9, 18] (fun _ _ i wr => ∃ (p : Nat) (A : Option Addr) (c : Nat), i = .int .i64 p ∧ p ≤ rows ∧ Hid (FlI w rows cols val (p * cols) A c wr)) (fun _ _ i _ => rows - (intOf i).toNat)
  case atStart =>
    refine ⟨0, some ⟨w.heap.size + 1, 0, none⟩, T, rfl, Nat.zero_le _, ?_⟩
    rw [Nat.zero_mul]
    refine ⟨?_, ?_, (((Below.refl _ _).alloc (Nat.le_refl _) _).alloc (by simp) _).alloc (by simp; omega) _, ?_⟩
    · have := Blk.new ((w.alloc (.cells #[.int .i64 0, .int .i64 0, .slice none 0 0] 45)).alloc (.cells (madeCells #[.int .u8 0] T) 5)) 45 (mv rows cols (some ⟨w.heap.size + 1, 0, none⟩) 0 T)
      simpa [mv] using this
    · refine World.ownsRow.alloc ?_ _
      have := own_made (w.alloc (.cells #[.int .i64 0, .int .i64 0, .slice none 0 0] 45)) w.heap.size 5 (.int .u8 0) 0 T (by simp) (by omega) (by unfold maxLen; omega)
      simpa [tabN] using this
    · exact ((Blk.new w 45 (mv 0 0 none 0 0)).alloc _).alloc _
  case round =>
    obtain ⟨p, A, c, rfl, hp, hI⟩ := hrel
    by_cases hlt : p < rows
    · go_wp2
      go_loopw [9, 22] (fun _ j wr => ∃ (q : Nat) (A : Option Addr) (c : Nat), j = .int .i64 q ∧ q ≤ cols ∧ Hid (FlI w rows cols val (p * cols + q) A c wr)) (fun _ j _ => cols - (intOf j).toNat)
      case atStart => exact ⟨0, A, c, rfl, Nat.zero_le _, hI⟩
      case round =>
        clear hI
        obtain ⟨q, A, c, rfl, hq, hI⟩ := hrel
        by_cases hlq : q < cols
        · have hcm := hI.out.blk.cell 2
          have hg2 := hI.out.blk.lt
          have hfm := hI.out.blk.frozen 2
          have hcm2 : (mv rows cols A (p * cols + q) c)[2]? = some (.slice A (p * cols + q) c) := rfl
          rw [hcm2] at hcm
          have HC := Lib.hid (HH.out p q hlt hlq wr.drew (below_drewN hI.out.below 1))
          have hlim : p * cols + q < T := by
            rw [← HT.out]
            calc p * cols + q < p * cols + cols := by omega
              _ = (p + 1) * cols := (Nat.succ_mul p cols).symm
              _ ≤ rows * cols := Nat.mul_le_mul_right _ hlt
          have HP := Lib.hid (fun w2 w3 A3 c3 hb2 => FlI.push (w := w) (wr := wr.drew) (w2 := w2) (w3 := w3) (A3 := A3) (c3 := c3) ⟨hI.out.blk, hI.out.own, below_drewN hI.out.below 1, hI.out.res⟩ hlq hb2 (b := bv (val p q)) rfl)
          have HK := Lib.hid (fun w2 w3 hb2 hg => FlI.kept (w := w) (wr := wr.drew) (w2 := w2) (w3 := w3) ⟨hI.out.blk, hI.out.own, below_drewN hI.out.below 1, hI.out.res⟩ hb2 (b := bv (val p q)) hg hI.out.blk (by decide))
          have HO : Hid (wr.drew.ownsRow w.heap.size 5 1 (.slice A (p * cols + q) c) (p * cols + q) ((tabN cols val (p * cols + q)).map bv)) := hI.out.own
          have hsz := hI.out.below.size
          clear hI hcm2
          go_wp2
          refine wp_region_held_drew (S := (fun _ => True)) (by kernel_rfl) trivial (fun _ => ?_)
          refine wpAnyH_take (i := 0) (v := ?_) rfl (by kernel_rfl) (by kernel_rfl) (by kernel_rfl) (fun _ _ _ h => h) (Or.inl ⟨by rfl, ?_⟩) trivial ?_
          rotate_left
          · intro wS hSw
            go_simp
            try with_reducible rfl
          try simp only [List.getElem_toArray, List.getElem_cons_zero, List.getElem_cons_succ, Act.put, List.setIfInBounds_toArray, List.set_cons_zero, List.set_cons_succ]
          refine wpAnyH_take (i := 2) (v := ?_) rfl (by kernel_rfl) (by kernel_rfl) (by kernel_rfl) (fun _ _ _ h => h) (Or.inl ⟨by rfl, ?_⟩) trivial ?_
          rotate_left
          · intro wS hSw
            go_simp
            try with_reducible rfl
          try simp only [List.getElem_toArray, List.getElem_cons_zero, List.getElem_cons_succ, Act.put, List.setIfInBounds_toArray, List.set_cons_zero, List.set_cons_succ]
          refine wpAnyH_take (i := 3) (v := ?_) rfl (by kernel_rfl) (by kernel_rfl) (by kernel_rfl) (fun _ _ _ h => h) (Or.inl ⟨by rfl, ?_⟩) trivial ?_
          rotate_left
          · intro wS hSw
            go_simp
            try with_reducible rfl
          try simp only [List.getElem_toArray, List.getElem_cons_zero, List.getElem_cons_succ, Act.put, List.setIfInBounds_toArray, List.set_cons_zero, List.set_cons_succ]
          refine wpAnyH_take (i := 4) (v := ?_) rfl (by kernel_rfl) (by kernel_rfl) (by kernel_rfl) (fun _ _ _ h => h) (Or.inl ⟨by rfl, ?_⟩) trivial ?_
          rotate_left
          · intro wS hSw
            go_simp
            try with_reducible rfl
          try simp only [List.getElem_toArray, List.getElem_cons_zero, List.getElem_cons_succ, Act.put, List.setIfInBounds_toArray, List.set_cons_zero, List.set_cons_succ]
          refine wpAnyH_ready (rs := [1, 5]) (by kernel_rfl) (by simp) ?_
          refine AllReadyH.cons rfl (fun K hK => ?_) (AllReadyH.cons rfl (fun K hK => ?_) AllReadyH.nil)
          · go_simp
            refine hK.out _ _ trivial (fun _ => ?_)
            clear hK K
            try simp only [List.getElem_toArray, List.getElem_cons_zero, List.getElem_cons_succ, Act.put, List.setIfInBounds_toArray, List.set_cons_zero, List.set_cons_succ]
            refine wpAnyH_ready (rs := [5]) (by kernel_rfl) (by simp) ?_
            refine AllReadyH.cons rfl (fun K hK => ?_) AllReadyH.nil
            go_simp
            refine HC.out.mono ?_
            rintro e w2 ⟨rfl, hb2⟩
            have hcm3 := (hb2.cell (p := ⟨w.heap.size + 1 + 1, 2, none⟩) (by exact hg2)).trans hcm
            have hs2 : w.heap.size ≤ w2.heap.size := Nat.le_trans hsz hb2.size
            have HB2 := Lib.hid hb2
            have hg3 := Nat.lt_of_lt_of_le hg2 hb2.size
            have hcm5 := (World.cell?_alloc_lt w2 (.cells #[.int .u8 ((val p q).toNat : Int)] 5) ⟨w.heap.size + 1 + 1, 2, none⟩ hg3).trans hcm3
            clear hb2
            refine hK.out _ _ trivial (fun _ => ?_)
            clear hK K
            try simp only [List.getElem_toArray, List.getElem_cons_zero, List.getElem_cons_succ, Act.put, List.setIfInBounds_toArray, List.set_cons_zero, List.set_cons_succ]
            refine wpAnyH_ready (rs := [6]) (by kernel_rfl) (by simp) ?_
            refine AllReadyH.cons rfl (fun K hK => ?_) AllReadyH.nil
            go_simp
            refine hK.out _ _ trivial (fun _ => ?_)
            clear hK K
            try simp only [List.getElem_toArray, List.getElem_cons_zero, List.getElem_cons_succ, Act.put, List.setIfInBounds_toArray, List.set_cons_zero, List.set_cons_succ]
            refine wpAnyH_ready (rs := [7]) (by kernel_rfl) (by simp) ?_
            refine AllReadyH.cons rfl (fun K hK => ?_) AllReadyH.nil
            refine wp_appB (.tmp 26) (.tmp 31) rfl w.heap.size A (p * cols + q) c ((tabN cols val (p * cols + q)).map bv) rfl ((own_via HO.out HB2.out).alloc _) _ (some ⟨w2.heap.size, 0, none⟩) 1 1 [bv (val p q)] rfl rfl (Rd.new w2 _ _ _ rfl) one_byte (by omega) (by simp; omega) ?_
            intro A3 c3 w3 ho3 hg3 hb3
            have hk3 := HK.out _ _ HB2.out hg3
            have hcm4 := hk3.cell 2
            rw [show (mv rows cols A (p * cols + q) c)[2]? = some (.slice A (p * cols + q) c) from rfl] at hcm4
            have hfm4 := hk3.frozen 2
            have HP3 := Lib.hid (HP.out _ _ _ _ HB2.out ho3 hg3 hb3)
            clear hk3 ho3 hg3 hb3
            refine hK.out _ _ trivial (fun _ => ?_)
            clear hK K
            try simp only [List.getElem_toArray, List.getElem_cons_zero, List.getElem_cons_succ, Act.put, List.setIfInBounds_toArray, List.set_cons_zero, List.set_cons_succ]
            refine wpAnyH_take (i := 8) (v := ?_) rfl (by kernel_rfl) (by kernel_rfl) (by kernel_rfl) (fun _ _ _ h => h) (Or.inl ⟨by rfl, ?_⟩) trivial ?_
            rotate_left
            · intro wS hSw
              go_simp
              try with_reducible rfl
            try simp only [List.getElem_toArray, List.getElem_cons_zero, List.getElem_cons_succ, Act.put, List.setIfInBounds_toArray, List.set_cons_zero, List.set_cons_succ]
            refine wpAnyH_ready (rs := [9]) (by kernel_rfl) (by simp) ?_
            refine AllReadyH.cons rfl (fun K hK => ?_) AllReadyH.nil
            go_simp
            refine hK.out _ _ trivial (fun _ => ?_)
            clear hK K
            try simp only [List.getElem_toArray, List.getElem_cons_zero, List.getElem_cons_succ, Act.put, List.setIfInBounds_toArray, List.set_cons_zero, List.set_cons_succ]
            refine wpAnyH_done (by kernel_rfl) ?_ _
            go_wp2
            go_roundw
            case rel => exact ⟨q + 1, A3, c3, by go_num, hlq, HP3⟩
            case measure => simp [intOf]; omega
          · go_simp
            refine HC.out.mono ?_
            rintro e w2 ⟨rfl, hb2⟩
            have hcm3 := (hb2.cell (p := ⟨w.heap.size + 1 + 1, 2, none⟩) (by exact hg2)).trans hcm
            have hs2 : w.heap.size ≤ w2.heap.size := Nat.le_trans hsz hb2.size
            have HB2 := Lib.hid hb2
            have hg3 := Nat.lt_of_lt_of_le hg2 hb2.size
            have hcm5 := (World.cell?_alloc_lt w2 (.cells #[.int .u8 ((val p q).toNat : Int)] 5) ⟨w.heap.size + 1 + 1, 2, none⟩ hg3).trans hcm3
            clear hb2
            refine hK.out _ _ trivial (fun _ => ?_)
            clear hK K
            try simp only [List.getElem_toArray, List.getElem_cons_zero, List.getElem_cons_succ, Act.put, List.setIfInBounds_toArray, List.set_cons_zero, List.set_cons_succ]
            refine wpAnyH_ready (rs := [1, 6]) (by kernel_rfl) (by simp) ?_
            refine AllReadyH.cons rfl (fun K hK => ?_) (AllReadyH.cons rfl (fun K hK => ?_) AllReadyH.nil)
            · go_simp
              refine hK.out _ _ trivial (fun _ => ?_)
              clear hK K
              try simp only [List.getElem_toArray, List.getElem_cons_zero, List.getElem_cons_succ, Act.put, List.setIfInBounds_toArray, List.set_cons_zero, List.set_cons_succ]
              refine wpAnyH_ready (rs := [6]) (by kernel_rfl) (by simp) ?_
              refine AllReadyH.cons rfl (fun K hK => ?_) AllReadyH.nil
              go_simp
              refine hK.out _ _ trivial (fun _ => ?_)
              clear hK K
              try simp only [List.getElem_toArray, List.getElem_cons_zero, List.getElem_cons_succ, Act.put, List.setIfInBounds_toArray, List.set_cons_zero, List.set_cons_succ]
              refine wpAnyH_ready (rs := [7]) (by kernel_rfl) (by simp) ?_
              refine AllReadyH.cons rfl (fun K hK => ?_) AllReadyH.nil
              refine wp_appB (.tmp 26) (.tmp 31) rfl w.heap.size A (p * cols + q) c ((tabN cols val (p * cols + q)).map bv) rfl ((own_via HO.out HB2.out).alloc _) _ (some ⟨w2.heap.size, 0, none⟩) 1 1 [bv (val p q)] rfl rfl (Rd.new w2 _ _ _ rfl) one_byte (by omega) (by simp; omega) ?_
              intro A3 c3 w3 ho3 hg3 hb3
              have hk3 := HK.out _ _ HB2.out hg3
              have hcm4 := hk3.cell 2
              rw [show (mv rows cols A (p * cols + q) c)[2]? = some (.slice A (p * cols + q) c) from rfl] at hcm4
              have hfm4 := hk3.frozen 2
              have HP3 := Lib.hid (HP.out _ _ _ _ HB2.out ho3 hg3 hb3)
              clear hk3 ho3 hg3 hb3
              refine hK.out _ _ trivial (fun _ => ?_)
              clear hK K
              try simp only [List.getElem_toArray, List.getElem_cons_zero, List.getElem_cons_succ, Act.put, List.setIfInBounds_toArray, List.set_cons_zero, List.set_cons_succ]
              refine wpAnyH_take (i := 8) (v := ?_) rfl (by kernel_rfl) (by kernel_rfl) (by kernel_rfl) (fun _ _ _ h => h) (Or.inl ⟨by rfl, ?_⟩) trivial ?_
              rotate_left
              · intro wS hSw
                go_simp
                try with_reducible rfl
              try simp only [List.getElem_toArray, List.getElem_cons_zero, List.getElem_cons_succ, Act.put, List.setIfInBounds_toArray, List.set_cons_zero, List.set_cons_succ]
              refine wpAnyH_ready (rs := [9]) (by kernel_rfl) (by simp) ?_
              refine AllReadyH.cons rfl (fun K hK => ?_) AllReadyH.nil
              go_simp
              refine hK.out _ _ trivial (fun _ => ?_)
              clear hK K
              try simp only [List.getElem_toArray, List.getElem_cons_zero, List.getElem_cons_succ, Act.put, List.setIfInBounds_toArray, List.set_cons_zero, List.set_cons_succ]
              refine wpAnyH_done (by kernel_rfl) ?_ _
              go_wp2
              go_roundw
              case rel => exact ⟨q + 1, A3, c3, by go_num, hlq, HP3⟩
              case measure => simp [intOf]; omega
            · go_simp
              refine hK.out _ _ trivial (fun _ => ?_)
              clear hK K
              try simp only [List.getElem_toArray, List.getElem_cons_zero, List.getElem_cons_succ, Act.put, List.setIfInBounds_toArray, List.set_cons_zero, List.set_cons_succ]
              refine wpAnyH_ready (rs := [1]) (by kernel_rfl) (by simp) ?_
              refine AllReadyH.cons rfl (fun K hK => ?_) AllReadyH.nil
              go_simp
              refine hK.out _ _ trivial (fun _ => ?_)
              clear hK K
              try simp only [List.getElem_toArray, List.getElem_cons_zero, List.getElem_cons_succ, Act.put, List.setIfInBounds_toArray, List.set_cons_zero, List.set_cons_succ]
              refine wpAnyH_ready (rs := [7]) (by kernel_rfl) (by simp) ?_
              refine AllReadyH.cons rfl (fun K hK => ?_) AllReadyH.nil
              refine wp_appB (.tmp 26) (.tmp 31) rfl w.heap.size A (p * cols + q) c ((tabN cols val (p * cols + q)).map bv) rfl ((own_via HO.out HB2.out).alloc _) _ (some ⟨w2.heap.size, 0, none⟩) 1 1 [bv (val p q)] rfl rfl (Rd.new w2 _ _ _ rfl) one_byte (by omega) (by simp; omega) ?_
              intro A3 c3 w3 ho3 hg3 hb3
              have hk3 := HK.out _ _ HB2.out hg3
              have hcm4 := hk3.cell 2
              rw [show (mv rows cols A (p * cols + q) c)[2]? = some (.slice A (p * cols + q) c) from rfl] at hcm4
              have hfm4 := hk3.frozen 2
              have HP3 := Lib.hid (HP.out _ _ _ _ HB2.out ho3 hg3 hb3)
              clear hk3 ho3 hg3 hb3
              refine hK.out _ _ trivial (fun _ => ?_)
              clear hK K
              try simp only [List.getElem_toArray, List.getElem_cons_zero, List.getElem_cons_succ, Act.put, List.setIfInBounds_toArray, List.set_cons_zero, List.set_cons_succ]
              refine wpAnyH_take (i := 8) (v := ?_) rfl (by kernel_rfl) (by kernel_rfl) (by kernel_rfl) (fun _ _ _ h => h) (Or.inl ⟨by rfl, ?_⟩) trivial ?_
              rotate_left
              · intro wS hSw
                go_simp
                try with_reducible rfl
              try simp only [List.getElem_toArray, List.getElem_cons_zero, List.getElem_cons_succ, Act.put, List.setIfInBounds_toArray, List.set_cons_zero, List.set_cons_succ]
              refine wpAnyH_ready (rs := [9]) (by kernel_rfl) (by simp) ?_
              refine AllReadyH.cons rfl (fun K hK => ?_) AllReadyH.nil
              go_simp
              refine hK.out _ _ trivial (fun _ => ?_)
              clear hK K
              try simp only [List.getElem_toArray, List.getElem_cons_zero, List.getElem_cons_succ, Act.put, List.setIfInBounds_toArray, List.set_cons_zero, List.set_cons_succ]
              refine wpAnyH_done (by kernel_rfl) ?_ _
              go_wp2
              go_roundw
              case rel => exact ⟨q + 1, A3, c3, by go_num, hlq, HP3⟩
              case measure => simp [intOf]; omega
        · obtain rfl : q = cols := by omega
          have hI' : Hid (FlI w rows q val ((p + 1) * q) A c wr) := (show FlI _ _ _ _ _ _ _ _ by rw [Nat.succ_mul]; exact hI.out)
          clear hI
          go_wp2
          go_roundw
          case rel => exact ⟨p + 1, A, c, by go_num, hlt, hI'⟩
          case measure => simp [intOf]; omega
    · obtain rfl : p = rows := by omega
      have hb := hI.out.blk
      have hr := hI.out.res
      have HO := Lib.hid hI.out.own
      have HBL := Lib.hid hI.out.below
      have HNE : Hid ((Value.slice A (p * cols) c).ownBlock ≠ some w.heap.size) := fun he => by
        rcases HO.out.2 with ⟨h0, _⟩ | ⟨g, cap, cur, hv, _, h2', _⟩
        · injection h0 with h0
          subst h0
          simp [Value.ownBlock] at he
        · injection hv with h0
          subst h0
          simp [Value.ownBlock] at he
          subst he
          exact absurd (Ty.one (w := wr) ⟨_, _, hr⟩ ⟨_, _, h2'⟩) (by decide)
      clear hI
      go_wp2_with (first | (refine wpList_load_row rfl 45 (.tmp 7) rfl (w.heap.size + 1 + 1) rfl 45 _ (0, 0) _ hb Try.underlying45 rfl matInfo3 ?_) | (refine wpList_store_row rfl 45 (.tmp 6) (.tmp 36) rfl w.heap.size (mv p cols A (p * cols) c) rfl rfl 45 (mv 0 0 none 0 0) hr matInfo3 rfl (mv_one _ _ _ _ _) ?_))
      refine bodyPost_ret (results_cell_row (g := w.heap.size) (t := 45) (cs := mv p cols A (p * cols) c) (fr := (0, 0)) rfl _ _ _ rfl (Blk.row hr _) Try.underlying45 rfl matInfo3) rfl ?_
      exact ⟨A, c, rfl, own_setRow HO.out HNE.out _, below_setRow HBL.out (Nat.le_refl _) _⟩
end Cib

end
/-! MatM -/
section
set_option linter.unusedVariables false
set_option linter.unusedSimpArgs false
namespace Lin
open Cib (tabN scB foB)
theorem fl_tab {cols p i k : Nat} {val : Nat → Nat → UInt8} (hk : k < cols) (h : i * cols + k < p) : fl cols (tabN cols val p) i k = val i k := by
  have h' : i * cols + k < (tabN cols val p).length := by rw [Cib.tabN_length]; exact h
  unfold fl
  rw [List.getD_eq_getElem?_getD, List.getElem?_eq_getElem h', Option.getD_some, Cib.tabN_get]
  have h1 : (i * cols + k) / cols = i := by
    rw [Nat.mul_comm, Nat.mul_add_div (by omega)]
    simp [Nat.div_eq_of_lt hk]
  have h2 : (i * cols + k) % cols = k := by
    rw [Nat.mul_comm, Nat.mul_add_mod]
    exact Nat.mod_eq_of_lt hk
  rw [h1, h2]
theorem lt_of_rc {r c i k : Nat} (hi : i < r) (hk : k < c) : i * c + k < r * c := by
  have : (i + 1) * c ≤ r * c := Nat.mul_le_mul_right c hi
  rw [Nat.succ_mul] at this
  omega
theorem fl_tabRC {r c i k : Nat} {val : Nat → Nat → UInt8} (hi : i < r) (hk : k < c) : fl c (tabN c val (r * c)) i k = val i k := fl_tab hk (lt_of_rc hi hk)
theorem fl_get {c i k : Nat} {A : List UInt8} (h : i * c + k < A.length) : fl c A i k = A[i * c + k] := by
  unfold fl
  rw [List.getD_eq_getElem?_getD, List.getElem?_eq_getElem h]
  rfl
/-- A list of r times c numbers is told by its rows and columns. -/
theorem tab_of {r c : Nat} {A : List UInt8} (hc : 0 < c) (hA : A.length = r * c) {val : Nat → Nat → UInt8} (h : ∀ i k, i < r → k < c → fl c A i k = val i k) : A = tabN c val (r * c) := by
  apply List.ext_getElem
  · rw [Cib.tabN_length, hA]
  · intro q h1 h2
    rw [Cib.tabN_get]
    have hq : q / c < r := by
      rw [Nat.div_lt_iff_lt_mul hc]
      omega
    have hm := Nat.mod_lt q hc
    have e : q / c * c + q % c = q := by rw [Nat.mul_comm]; exact Nat.div_add_mod q c
    have hx : q / c * c + q % c < A.length := by rw [e]; exact h1
    rw [← h _ _ hq hm, fl_get hx]
    congr 1
    exact e.symm
theorem tab_congr {r c : Nat} (hc : 0 < c) {val val' : Nat → Nat → UInt8} (h : ∀ i k, i < r → k < c → val i k = val' i k) : tabN c val (r * c) = tabN c val' (r * c) :=
  tab_of hc (Cib.tabN_length _ _ _) fun i k hi hk => by rw [fl_tabRC hi hk, h i k hi hk]
/-- The product. -/
def mulL (ra ca cb : Nat) (A B : List UInt8) : List UInt8 := tabN cb (mm ca (fl ca A) (fl cb B)) (ra * cb)
theorem mulL_length (ra ca cb : Nat) (A B : List UInt8) : (mulL ra ca cb A B).length = ra * cb := Cib.tabN_length _ _ _
theorem mulL_fl {ra ca cb i k : Nat} {A B : List UInt8} (hi : i < ra) (hk : k < cb) : fl cb (mulL ra ca cb A B) i k = mm ca (fl ca A) (fl cb B) i k := fl_tabRC hi hk
/-- A row of a product, of which so many terms were summed. -/
def sumL (ca cb : Nat) (A B : List UInt8) (i t : Nat) : List UInt8 := (List.range cb).map fun k => sm t (fun j => gm (fl ca A i j) (fl cb B j k))
theorem sumL_length (ca cb : Nat) (A B : List UInt8) (i t : Nat) : (sumL ca cb A B i t).length = cb := by simp [sumL]
theorem sumL_zero (ca cb : Nat) (A B : List UInt8) (i : Nat) : sumL ca cb A B i 0 = List.replicate cb 0 := by
  unfold sumL
  apply List.ext_getElem
  · simp
  · intro q h1 h2
    simp [sm]
theorem sumL_next {rb ca cb i t : Nat} {A B : List UInt8} (hB : B.length = rb * cb) (ht : t < rb) : foB (fl ca A i t).toNat (rowOf cb B t) (sumL ca cb A B i t) = sumL ca cb A B i (t + 1) := by
  apply List.ext_getElem
  · rw [Cib.foB_length, sumL_length, sumL_length]
  · intro q h1 h2
    rw [sumL_length] at h2
    have e := foB_ent (fl ca A i t) (rowOf cb B t) (sumL ca cb A B i t) (k := q) (by rw [sumL_length]; exact h2)
    rw [List.getD_eq_getElem?_getD, List.getElem?_eq_getElem h1, Option.getD_some] at e
    rw [e, rowOf_get h2]
    simp only [sumL, List.getElem_map, List.getElem_range, List.getD_eq_getElem?_getD]
    rw [List.getElem?_map, List.getElem?_range h2]
    rfl
theorem tabN_row (cols : Nat) (val : Nat → Nat → UInt8) (i : Nat) : tabN cols val (i * cols) ++ (List.range cols).map (val i) = tabN cols val ((i + 1) * cols) := by
  have : ∀ j, j ≤ cols → tabN cols val (i * cols) ++ (List.range j).map (val i) = tabN cols val (i * cols + j) := by
    intro j
    induction j with
    | zero => intro _; simp
    | succ j ih =>
      intro hj
      rw [Cib.tabN_next cols val (by omega), ← ih (by omega), List.range_succ, List.map_append, List.append_assoc]
      rfl
  rw [this cols (Nat.le_refl _), Nat.succ_mul]
theorem mulL_row (ra ca cb : Nat) (A B : List UInt8) (i : Nat) : tabN cb (mm ca (fl ca A) (fl cb B)) (i * cb) ++ sumL ca cb A B i ca = tabN cb (mm ca (fl ca A) (fl cb B)) ((i + 1) * cb) := tabN_row cb _ i
/-- The identity. -/
def oneL (n : Nat) : List UInt8 := tabN n dl (n * n)
theorem oneL_fl {n i k : Nat} (hi : i < n) (hk : k < n) : fl n (oneL n) i k = dl i k := fl_tabRC hi hk
theorem mulL_one {n : Nat} (hn : 0 < n) {A X : List UInt8} (h : ∀ i k, i < n → k < n → mm n (fl n A) (fl n X) i k = dl i k) : mulL n n n A X = oneL n := tab_congr hn h
/-- Rows for columns. -/
def turnL (r c : Nat) (A : List UInt8) : List UInt8 := tabN r (fun j i => fl c A i j) (c * r)
theorem turnL_fl {r c i k : Nat} {A : List UInt8} (hi : i < c) (hk : k < r) : fl r (turnL r c A) i k = fl c A k i := fl_tabRC hi hk
theorem turnL_length (r c : Nat) (A : List UInt8) : (turnL r c A).length = c * r := Cib.tabN_length _ _ _
theorem turn_rank {r c : Nat} {A : List UInt8} {n m : Nat} (h : Rk r c (fl c A) n) (g : Rk c r (fl r (turnL r c A)) m) : n = m :=
  h.turn (g.congr fun i k hi hk => turnL_fl hi hk)
/-- Some rows. -/
def pickL (c : Nat) (A : List UInt8) (rows : List Nat) : List UInt8 := tabN c (fun i j => fl c A (rows.getD i 0) j) (rows.length * c)
theorem mulL_assoc {ra ca cb cc : Nat} (hc : 0 < cc) {A B D : List UInt8} : mulL ra cb cc (mulL ra ca cb A B) D = mulL ra ca cc A (mulL ca cb cc B D) := by
  refine tab_congr hc fun i k hi hk => ?_
  rw [mm_congr (n := cb) (A' := mm ca (fl ca A) (fl cb B)) (B' := fl cc D) (fun j hj => mulL_fl hi hj) (fun j _ => rfl)]
  rw [mm_congr (n := ca) (A' := fl ca A) (B' := mm cb (fl cb B) (fl cc D)) (fun j _ => rfl) (fun j hj => mulL_fl hj hk)]
  exact mm_assoc _ _ _ _ _ _ _
end Lin

end
/-! MatC -/
section
set_option linter.unusedVariables false
set_option linter.unusedSimpArgs false
set_option maxRecDepth 40000
namespace Cib
open Go Go.RowKit Go.Proofs
/-- A number of a Cauchy matrix. -/
def cauV (xs ys : List UInt8) (i j : Nat) : UInt8 := UInt8.ofNat (divA 1 ((xs.getD i 0).toNat ^^^ (ys.getD j 0).toNat)).1
theorem divA_lt (a b : Nat) : (divA a b).1 < 256 := by
  unfold divA
  split
  · decide
  · exact Fld.gdiv_lt _ _
theorem cauV_nat (xs ys : List UInt8) (i j : Nat) : (cauV xs ys i j).toNat = (divA 1 ((xs.getD i 0).toNat ^^^ (ys.getD j 0).toNat)).1 := by
  unfold cauV
  rw [UInt8.toNat_ofNat', Nat.mod_eq_of_lt (divA_lt _ _)]
theorem matCell (g g3 g4 g5 : Nat) (A1 A2 : Option Addr) (n1 n2 c1 c2 : Nat) (xs ys : List UInt8) (i j : Nat) (W : World) (hf : Full W g) (B : Nat) (hB : B ≤ W.heap.size)
    (h3 : W.cell? ⟨g3, 0, none⟩ = some (.pointer (some ⟨g, 0, none⟩))) (h4 : W.cell? ⟨g4, 0, none⟩ = some (.slice A1 n1 c1)) (h5 : W.cell? ⟨g5, 0, none⟩ = some (.slice A2 n2 c2))
    (hx : Rd W B A1 (xs.map bv)) (hy : Rd W B A2 (ys.map bv)) (hn1 : xs.length = n1) (hn2 : ys.length = n2) (hi : i < n1) (hj : j < n2) (hn3 : n1 ≤ 255) (hn4 : n2 ≤ 255) :
    Calls Try.prog 30 #[.int .i64 (i : Int), .int .i64 (j : Int), .pointer (some ⟨g3, 0, none⟩), .pointer (some ⟨g4, 0, none⟩), .pointer (some ⟨g5, 0, none⟩)] W fun e W' => e = .returned (.int .u8 ((cauV xs ys i j).toNat : Int)) ∧ Below W.heap.size W W' := by
  rw [cauV_nat]
  have hi' : i < xs.length := by omega
  have hj' : j < ys.length := by omega
  obtain ⟨a1, rfl, hb1, hc1⟩ := hx.byte hi'
  obtain ⟨a2, rfl, hb2, hc2⟩ := hy.byte hj'
  rw [show xs.getD i 0 = xs[i] from by simp [List.getD, hi'], show ys.getD j 0 = ys[j] from by simp [List.getD, hj']]
  have hd1 := xs[i].toNat_lt
  have hd2 := ys[j].toNat_lt
  have hxr := u8_xor_nat _ _ hd1 hd2
  have hlt := Fld.xor_lt hd1 hd2
  generalize xs[i].toNat = x at *
  generalize ys[j].toNat = y at *
  obtain ⟨z, hz⟩ : ∃ z, Hid (x ^^^ y = z) := ⟨_, rfl⟩
  rw [hz.out] at hxr hlt ⊢
  have HD := Lib.hid (fldDivF g 1 z (by decide) hlt W.drew hf)
  obtain ⟨d, hd⟩ : ∃ d, Hid (divA 1 z = d) := ⟨_, rfl⟩
  rw [hd.out] at HD ⊢
  obtain ⟨d1, d2⟩ := d
  unfold pairV at HD
  simp only at HD ⊢
  have hg3 := block_lt_of_cell h3
  have hg4 := block_lt_of_cell h4
  have hg5 := block_lt_of_cell h5
  have ha1 := block_lt_of_cell hc1
  have ha2 := block_lt_of_cell hc2
  go_enter Try.func30, Try.ntmps30
  go_wp2
  refine wp_region_held_drew (S := (fun wQq => Below (World.heap (W.drew)).size (W.drew) wQq)) (by kernel_rfl) (by exact Below.refl _ _) (fun _ => ?_)
  refine wpAnyH_take (i := 2) (v := ?_) rfl (by kernel_rfl) (by kernel_rfl) (by kernel_rfl) (fun _ _ _ h => h) (Or.inl ⟨by rfl, ?_⟩) (Below.refl _ _) ?_
  rotate_left
  · intro wS hSw
    go_simp
    try with_reducible rfl
  try simp only [List.getElem_toArray, List.getElem_cons_zero, List.getElem_cons_succ, Act.put, List.setIfInBounds_toArray, List.set_cons_zero, List.set_cons_succ]
  refine wpAnyH_take (i := 6) (v := ?_) rfl (by kernel_rfl) (by kernel_rfl) (by kernel_rfl) (fun _ _ _ h => h) (Or.inl ⟨by rfl, ?_⟩) (Below.refl _ _) ?_
  rotate_left
  · intro wS hSw
    go_simp
    try with_reducible rfl
  try simp only [List.getElem_toArray, List.getElem_cons_zero, List.getElem_cons_succ, Act.put, List.setIfInBounds_toArray, List.set_cons_zero, List.set_cons_succ]
  refine wpAnyH_take (i := 0) (v := ?_) rfl (by kernel_rfl) (by kernel_rfl) (by kernel_rfl) (fun _ _ _ h => h) (Or.inl ⟨by rfl, ?_⟩) (Below.refl _ _) ?_
  rotate_left
  · intro wS hSw
    have hcv := ((hSw.cell (p := ⟨g3, 0, none⟩) (by exact hg3)).trans h3)
    go_simp
    try with_reducible rfl
  try simp only [List.getElem_toArray, List.getElem_cons_zero, List.getElem_cons_succ, Act.put, List.setIfInBounds_toArray, List.set_cons_zero, List.set_cons_succ]
  refine wpAnyH_take (i := 1) (v := ?_) rfl (by kernel_rfl) (by kernel_rfl) (by kernel_rfl) (fun _ _ _ h => h) (Or.inl ⟨by rfl, ?_⟩) (Below.refl _ _) ?_
  rotate_left
  · intro wS hSw
    have hcv := ((hSw.cell (p := ⟨g4, 0, none⟩) (by exact hg4)).trans h4)
    go_simp
    try with_reducible rfl
  try simp only [List.getElem_toArray, List.getElem_cons_zero, List.getElem_cons_succ, Act.put, List.setIfInBounds_toArray, List.set_cons_zero, List.set_cons_succ]
  refine wpAnyH_take (i := 3) (v := ?_) rfl (by kernel_rfl) (by kernel_rfl) (by kernel_rfl) (fun _ _ _ h => h) (Or.inl ⟨by rfl, ?_⟩) (Below.refl _ _) ?_
  rotate_left
  · intro wS hSw
    go_simp
    try with_reducible rfl
  try simp only [List.getElem_toArray, List.getElem_cons_zero, List.getElem_cons_succ, Act.put, List.setIfInBounds_toArray, List.set_cons_zero, List.set_cons_succ]
  refine wpAnyH_take (i := 4) (v := ?_) rfl (by kernel_rfl) (by kernel_rfl) (by kernel_rfl) (fun _ _ _ h => h) (Or.inl ⟨by rfl, ?_⟩) (Below.refl _ _) ?_
  rotate_left
  · intro wS hSw
    have hcv := ((hSw.cell (p := a1.add i) (by exact ha1)).trans hc1)
    go_simp
    try with_reducible rfl
  try simp only [List.getElem_toArray, List.getElem_cons_zero, List.getElem_cons_succ, Act.put, List.setIfInBounds_toArray, List.set_cons_zero, List.set_cons_succ]
  refine wpAnyH_take (i := 5) (v := ?_) rfl (by kernel_rfl) (by kernel_rfl) (by kernel_rfl) (fun _ _ _ h => h) (Or.inl ⟨by rfl, ?_⟩) (Below.refl _ _) ?_
  rotate_left
  · intro wS hSw
    have hcv := ((hSw.cell (p := ⟨g5, 0, none⟩) (by exact hg5)).trans h5)
    go_simp
    try with_reducible rfl
  try simp only [List.getElem_toArray, List.getElem_cons_zero, List.getElem_cons_succ, Act.put, List.setIfInBounds_toArray, List.set_cons_zero, List.set_cons_succ]
  refine wpAnyH_take (i := 7) (v := ?_) rfl (by kernel_rfl) (by kernel_rfl) (by kernel_rfl) (fun _ _ _ h => h) (Or.inl ⟨by rfl, ?_⟩) (Below.refl _ _) ?_
  rotate_left
  · intro wS hSw
    go_simp
    try with_reducible rfl
  try simp only [List.getElem_toArray, List.getElem_cons_zero, List.getElem_cons_succ, Act.put, List.setIfInBounds_toArray, List.set_cons_zero, List.set_cons_succ]
  refine wpAnyH_take (i := 8) (v := ?_) rfl (by kernel_rfl) (by kernel_rfl) (by kernel_rfl) (fun _ _ _ h => h) (Or.inl ⟨by rfl, ?_⟩) (Below.refl _ _) ?_
  rotate_left
  · intro wS hSw
    have hcv := ((hSw.cell (p := a2.add j) (by exact ha2)).trans hc2)
    go_simp
    try with_reducible rfl
  try simp only [List.getElem_toArray, List.getElem_cons_zero, List.getElem_cons_succ, Act.put, List.setIfInBounds_toArray, List.set_cons_zero, List.set_cons_succ]
  refine wpAnyH_take (i := 9) (v := ?_) rfl (by kernel_rfl) (by kernel_rfl) (by kernel_rfl) (fun _ _ _ h => h) (Or.inl ⟨by rfl, ?_⟩) (Below.refl _ _) ?_
  rotate_left
  · intro wS hSw
    go_simp
    try with_reducible rfl
  try simp only [List.getElem_toArray, List.getElem_cons_zero, List.getElem_cons_succ, Act.put, List.setIfInBounds_toArray, List.set_cons_zero, List.set_cons_succ]
  refine wpAnyH_ready (rs := [10]) (by kernel_rfl) (by simp) ?_
  refine AllReadyH.cons rfl (fun K hK => ?_) AllReadyH.nil
  go_simp
  refine HD.out.mono ?_
  rintro e w2 ⟨rfl, hb⟩
  refine hK.out _ _ hb (fun _ => ?_)
  clear hK K
  try simp only [List.getElem_toArray, List.getElem_cons_zero, List.getElem_cons_succ, Act.put, List.setIfInBounds_toArray, List.set_cons_zero, List.set_cons_succ]
  refine wpAnyH_strong (S2 := fun w' => Below (World.heap w2).size w2 w') (fun _ h => Below.via hb h) ?_
  refine wpAnyH_take (i := 11) (v := ?_) rfl (by kernel_rfl) (by kernel_rfl) (by kernel_rfl) (fun _ _ _ h => h) (Or.inl ⟨by rfl, ?_⟩) (Below.refl _ _) ?_
  rotate_left
  · intro wS hSw
    go_simp
    try with_reducible rfl
  try simp only [List.getElem_toArray, List.getElem_cons_zero, List.getElem_cons_succ, Act.put, List.setIfInBounds_toArray, List.set_cons_zero, List.set_cons_succ]
  refine wpAnyH_take (i := 12) (v := ?_) rfl (by kernel_rfl) (by kernel_rfl) (by kernel_rfl) (fun _ _ _ h => h) (Or.inl ⟨by rfl, ?_⟩) (Below.refl _ _) ?_
  rotate_left
  · intro wS hSw
    go_simp
    try with_reducible rfl
  try simp only [List.getElem_toArray, List.getElem_cons_zero, List.getElem_cons_succ, Act.put, List.setIfInBounds_toArray, List.set_cons_zero, List.set_cons_succ]
  refine wpAnyH_take (i := 13) (v := ?_) rfl (by kernel_rfl) (by kernel_rfl) (by kernel_rfl) (fun _ _ _ h => h) (Or.inl ⟨by rfl, ?_⟩) (Below.refl _ _) ?_
  rotate_left
  · intro wS hSw
    go_simp
    try with_reducible rfl
  try simp only [List.getElem_toArray, List.getElem_cons_zero, List.getElem_cons_succ, Act.put, List.setIfInBounds_toArray, List.set_cons_zero, List.set_cons_succ]
  refine wpAnyH_take (i := 14) (v := ?_) rfl (by kernel_rfl) (by kernel_rfl) (by kernel_rfl) (fun _ _ _ h => h) (Or.inl ⟨by rfl, ?_⟩) (Below.refl _ _) ?_
  rotate_left
  · intro wS hSw
    go_simp
    try with_reducible rfl
  try simp only [List.getElem_toArray, List.getElem_cons_zero, List.getElem_cons_succ, Act.put, List.setIfInBounds_toArray, List.set_cons_zero, List.set_cons_succ]
  refine wpAnyH_take (i := 15) (v := ?_) rfl (by kernel_rfl) (by kernel_rfl) (by kernel_rfl) (fun _ _ _ h => h) (Or.inl ⟨by rfl, ?_⟩) (Below.refl _ _) ?_
  rotate_left
  · intro wS hSw
    go_simp
    try with_reducible rfl
  try simp only [List.getElem_toArray, List.getElem_cons_zero, List.getElem_cons_succ, Act.put, List.setIfInBounds_toArray, List.set_cons_zero, List.set_cons_succ]
  refine wpAnyH_done (by kernel_rfl) ?_ _
  go_wp2
  go_ret
  exact ⟨rfl, (below_drewN (Below.refl W.heap.size W) 1).trans hb⟩
/-- A slice that lies apart from the field reads as it did. -/
theorem Stp.rd {w w' : World} {g B : Nat} (h : Stp g w w') {A : Option Addr} {vs : List Value} (hr : Rd w B A vs) (hB : B ≤ w.heap.size) (hg : ∀ ad, A = some ad → ad.block ≠ g) : Rd w' B A vs := fun hn => by
  obtain ⟨ad, rfl, hb, hc⟩ := hr hn
  refine ⟨ad, rfl, hb, fun j hj => (World.cell?_of_block ?_).trans (hc j hj)⟩
  rw [addr_add_block]
  exact h.oth _ (by omega) (hg ad rfl)
/-- What a call that makes a matrix answers: its numbers, in new memory. -/
def NewM (g : Nat) (r c : Nat) (bs : List UInt8) (w : World) (e : Ending) (w' : World) : Prop :=
  ∃ A k, e = .returned (.tuple #[.agg (mv r c A (r * c) k), .int .i64 0]) ∧ bs.length = r * c ∧ w'.ownsRow w.heap.size 5 1 (.slice A (r * c) k) (r * c) (bs.map bv) ∧ Stp g w w'
/-- That there is none. -/
def NoM (g : Nat) (err : Int) (w : World) (e : Ending) (w' : World) : Prop := e = .returned (.tuple #[.agg (mv 0 0 none 0 0), .int .i64 err]) ∧ Stp g w w'
theorem flat_two (a b : RowB) : flat [a, b] = a.bs ++ b.bs := by simp [flat]
/-- Cauchy's boxes. -/
structure CauW (w : World) (g : Nat) (A1 A2 : Option Addr) (n1 n2 c1 c2 : Nat) (wa : World) : Prop where
  b3 : Blk wa w.heap.size 25 #[.pointer (some ⟨g, 0, none⟩)]
  b4 : Blk wa (w.heap.size + 1) 22 #[.slice A1 n1 c1]
  b5 : Blk wa (w.heap.size + 1 + 1) 22 #[.slice A2 n2 c2]
  b6 : Blk wa (w.heap.size + 1 + 1 + 1) 45 (mv 0 0 none 0 0)
theorem CauW.below {w wa wb : World} {g n1 n2 c1 c2 : Nat} {A1 A2 : Option Addr} (h : CauW w g A1 A2 n1 n2 c1 c2 wa) (hb : Below wa.heap.size wa wb) : CauW w g A1 A2 n1 n2 c1 c2 wb :=
  ⟨h.b3.below hb h.b3.lt, h.b4.below hb h.b4.lt, h.b5.below hb h.b5.lt, h.b6.below hb h.b6.lt⟩
theorem CauW.aft {w wa wb : World} {g n1 n2 c1 c2 : Nat} {A1 A2 : Option Addr} (h : CauW w g A1 A2 n1 n2 c1 c2 wa) (ha : Aft g wa wb) (hg : g < w.heap.size) : CauW w g A1 A2 n1 n2 c1 c2 wb :=
  ⟨ha.blk (by omega) h.b3, ha.blk (by omega) h.b4, ha.blk (by omega) h.b5, ha.blk (by omega) h.b6⟩
theorem CauW.new (w : World) (g : Nat) (A1 A2 : Option Addr) (n1 n2 c1 c2 : Nat) :
    CauW w g A1 A2 n1 n2 c1 c2 ((((w.alloc (.cells #[.pointer (some ⟨g, 0, none⟩)] 25)).alloc (.cells #[.slice A1 n1 c1] 22)).alloc (.cells #[.slice A2 n2 c2] 22)).alloc (.cells (mv 0 0 none 0 0) 45)) :=
  ⟨(((Blk.new w _ _).alloc _).alloc _).alloc _, by have := ((Blk.new (w.alloc (.cells #[.pointer (some ⟨g, 0, none⟩)] 25)) 22 #[.slice A1 n1 c1]).alloc (.cells #[.slice A2 n2 c2] 22)).alloc (.cells (mv 0 0 none 0 0) 45); simpa using this,
    by have := (Blk.new ((w.alloc (.cells #[.pointer (some ⟨g, 0, none⟩)] 25)).alloc (.cells #[.slice A1 n1 c1] 22)) 22 #[.slice A2 n2 c2]).alloc (.cells (mv 0 0 none 0 0) 45); simpa using this,
    by have := Blk.new (((w.alloc (.cells #[.pointer (some ⟨g, 0, none⟩)] 25)).alloc (.cells #[.slice A1 n1 c1] 22)).alloc (.cells #[.slice A2 n2 c2] 22)) 45 (mv 0 0 none 0 0); simpa using this⟩
theorem Aft.stp2 {w wa w1 : World} {g : Nat} (ha : Aft g wa w1) (hb : Below w.heap.size w wa) : Stp g w w1 :=
  ⟨ha.full, ha.os.trans hb.os, ha.tape.trans hb.tape, ha.output.trans hb.output, by rw [ha.size]; exact hb.size, fun k hk hkg => (ha.oth k hkg).trans (hb.block k hk)⟩
theorem Stp.via {w w1 w2 : World} {g : Nat} (h : Stp g w w1) (hb : Below w1.heap.size w1 w2) : Stp g w w2 :=
  ⟨h.full.below hb h.full.lt, hb.os.trans h.os, hb.tape.trans h.tape, hb.output.trans h.output, Nat.le_trans h.size hb.size, fun k hk hkg => (hb.block k (Nat.lt_of_lt_of_le hk h.size)).trans (h.oth k hk hkg)⟩
/-- A store into memory that is younger. -/
theorem Stp.setRow {w w1 : World} {g k : Nat} (h : Stp g w w1) (hk : w.heap.size ≤ k) (hkg : g ≠ k) (cs : Array Value) : Stp g w (w1.setRow k cs) :=
  ⟨h.full.rowFar hkg cs, h.os, h.tape, h.output, by rw [size_setRow]; exact h.size, fun j hj hjg => (setRow_other w1 k j cs (by omega)).trans (h.oth j hj hjg)⟩
theorem own_lowerB {w : World} {base b : Nat} {e : TypeId} {v : Value} {n : Nat} {xs : List Value} (h : w.ownsRow b e 1 v n xs) (hb : base ≤ b) : w.ownsRow base e 1 v n xs := by
  refine ⟨h.1, ?_⟩
  rcases h.2 with h0 | ⟨g, cap, cur, hv, h1, h2⟩
  · exact .inl h0
  · exact .inr ⟨g, cap, cur, hv, by omega, h2⟩
set_option maxHeartbeats 1600000 in
theorem matCauchy (g : Nat) (A1 A2 : Option Addr) (n1 n2 c1 c2 : Nat) (xs ys : List UInt8) (w : World) (h : Fld w g) (B : Nat) (hB : B ≤ w.heap.size) (hx : Rd w B A1 (xs.map bv)) (hy : Rd w B A2 (ys.map bv)) (hxg : ∀ ad, A1 = some ad → ad.block ≠ g) (hyg : ∀ ad, A2 = some ad → ad.block ≠ g)
    (hn1 : xs.length = n1) (hn2 : ys.length = n2) (hc1 : n1 ≤ c1) (hc2 : n2 ≤ c2) (hm1 : c1 ≤ maxLen) (hm2 : c2 ≤ maxLen) (h1 : 1 ≤ n1 ∧ n1 ≤ 255) (h2 : 1 ≤ n2 ∧ n2 ≤ 255) (hnd : (xs ++ ys).Nodup) :
    Calls Try.prog 16 #[.pointer (some ⟨g, 0, none⟩), .slice A1 n1 c1, .slice A2 n2 c2] w (NewM g n1 n2 (tabN n2 (cauV xs ys) (n1 * n2)) w) := by
  have hz : Below w.heap.size w ((((w.alloc (.cells #[.pointer (some ⟨g, 0, none⟩)] 25)).alloc (.cells #[.slice A1 n1 c1] 22)).alloc (.cells #[.slice A2 n2 c2] 22)).alloc (.cells (mv 0 0 none 0 0) 45)) := ((((Below.refl _ _).alloc (Nat.le_refl _) _).alloc (by simp) _).alloc (by simp; omega) _).alloc (by simp; omega) _
  have hcw := CauW.new w g A1 A2 n1 n2 c1 c2
  have hfa : Fld ((((w.alloc (.cells #[.pointer (some ⟨g, 0, none⟩)] 25)).alloc (.cells #[.slice A1 n1 c1] 22)).alloc (.cells #[.slice A2 n2 c2] 22)).alloc (.cells (mv 0 0 none 0 0) 45)) g := by
    rcases h with h | h
    · exact .inl (h.below hz h.lt)
    · exact .inr (h.below hz h.lt)
  have hgl := h.lt
  have hw1 : wi (n1 : Int) = true := wi_true.2 (by omega)
  have hw2 : wi (n2 : Int) = true := wi_true.2 (by omega)
  have HW1 := Lib.hid (fun W => matWithin (n1 : Int) W)
  have HW2 := Lib.hid (fun W => matWithin (n2 : Int) W)
  rw [hw1] at HW1
  rw [hw2] at HW2
  have HX := Lib.hid hx
  have HY := Lib.hid hy
  have HN1 := Lib.hid hn1
  have HN2 := Lib.hid hn2
  have HGL := Lib.hid hgl
  clear h hw1 hw2 hx hy hn1 hn2 hgl
  go_enter Try.func16, Try.ntmps16
  go_wp2_with fail
  refine (matNobody g _ hfa).mono ?_
  rintro e w1 ⟨rfl, ha⟩
  have hs1 := ha.stp2 hz
  have hcw1 := hcw.aft ha HGL.out
  clear ha hcw hz hfa
  have hc3 := hcw1.b3.cell 0
  have hc4 := hcw1.b4.cell 0
  have hc5 := hcw1.b5.cell 0
  simp only [List.getElem?_toArray, List.getElem?_cons_zero] at hc3 hc4 hc5
  have hlt6 := hcw1.b6.lt
  have hlt5 := hcw1.b5.lt
  have hlt4 := hcw1.b4.lt
  have HS1 := Lib.hid hs1
  have HCW1 := Lib.hid hcw1
  clear hs1 hcw1
  go_wp2_with (first | (go_at_call 27; first | (refine (HW1.out _).mono ?_; rintro e w' ⟨rfl, rfl⟩) | (refine (HW2.out _).mono ?_; rintro e w' ⟨rfl, rfl⟩)))
  have hal : Below w'.heap.size w' (w'.alloc (.cells #[.slice A1 n1 c1, .slice A2 n2 c2] 22)) := (Below.refl _ _).alloc (Nat.le_refl _) _
  have hX1 := (HS1.out.rd HX.out hB hxg).more (Nat.le_trans hB HS1.out.size)
  have hY1 := (HS1.out.rd HY.out hB hyg).more (Nat.le_trans hB HS1.out.size)
  refine (matTwice [⟨A1, n1, c1, xs⟩, ⟨A2, n2, c2, ys⟩] _ (some ⟨w'.heap.size, 0, none⟩) 2 2 _ (Rd.new w' _ _ _ rfl) (RowsAt.cons ⟨(hX1.below hal).more (by simp), HN1.out, hc1, hm1⟩ (RowsAt.cons ⟨(hY1.below hal).more (by simp), HN2.out, hc2, hm2⟩ RowsAt.nil)) (by simp) rfl (by decide) (by intro r hr; simp at hr; rcases hr with rfl | rfl <;> simp <;> omega)).mono ?_
  rintro e w2 ⟨⟨x, rfl, hxx⟩, hb2⟩
  have hb3 := hal.trans (hb2.mono hal.size)
  obtain rfl : x = false := hxx.2 (by rw [flat_two]; exact hnd)
  have HCW2 := Lib.hid (HCW1.out.below hb3)
  have HS2 := Lib.hid (HS1.out.via hb3)
  have HX2 := Lib.hid (hX1.below hb3)
  have HY2 := Lib.hid (hY1.below hb3)
  have hsz2 := hb3.size
  have hd3 := HCW2.out.b3.cell 0
  have hd4 := HCW2.out.b4.cell 0
  have hd5 := HCW2.out.b5.cell 0
  simp only [List.getElem?_toArray, List.getElem?_cons_zero] at hd3 hd4 hd5
  clear hal hX1 hY1 hxx hb2 hb3 HCW1 HS1 hc3 hc4 hc5 HW1 HW2
  go_wp2_with fail
  refine (matFilled 30 #[.pointer (some ⟨w.heap.size, 0, none⟩), .pointer (some ⟨w.heap.size + 1, 0, none⟩), .pointer (some ⟨w.heap.size + 1 + 1, 0, none⟩)] n1 n2 h1.2 h2.2 (cauV xs ys) w2 (fun a W => by go_simp) (fun i j hi hj W hW =>
    matCell g _ _ _ A1 A2 n1 n2 c1 c2 xs ys i j W (HS2.out.full.on hW) w'.heap.size (Nat.le_trans hsz2 hW.size) ((hW.cell (p := ⟨_, _, none⟩) HCW2.out.b3.lt).trans hd3) ((hW.cell (p := ⟨_, _, none⟩) HCW2.out.b4.lt).trans hd4) ((hW.cell (p := ⟨_, _, none⟩) HCW2.out.b5.lt).trans hd5) (HX2.out.below (hW.mono hsz2)) (HY2.out.below (hW.mono hsz2)) HN1.out HN2.out hi hj h1.2 h2.2)).mono ?_
  rintro e w3 ⟨A, c, rfl, ho, hb3⟩
  have hr6 := (HCW2.out.below hb3).b6
  have HS3 := Lib.hid (HS2.out.via hb3)
  have HO := Lib.hid ho
  have HSZ := Lib.hid HS2.out.size
  clear ho hb3
  go_wp2_with (refine wpList_store_row rfl 45 (.tmp 6) (.tmp 35) rfl (w.heap.size + 1 + 1 + 1) (mv n1 n2 A (n1 * n2) c) rfl rfl 45 (mv 0 0 none 0 0) hr6 matInfo3 rfl (mv_one _ _ _ _ _) ?_)
  refine bodyPost_ret (results_mat2 (g := w.heap.size + 1 + 1 + 1) (te := 45) (cs := mv n1 n2 A (n1 * n2) c) (fr := (0, 0)) rfl _ _ _ rfl (hr6.row _) Try.underlying45 rfl matInfo3) rfl ?_
  refine ⟨A, c, rfl, tabN_length _ _ _, own_setRow (own_lowerB HO.out HSZ.out) ?_ _, HS3.out.setRow (by omega) (by have := HGL.out; omega) _⟩
  intro he
  have := (HO.out.lt _ he).1
  omega
end Cib

end
/-! RowsN -/
section
set_option linter.unusedVariables false
set_option linter.unusedSimpArgs false
set_option maxRecDepth 20000
namespace Cib
open Go Go.RowKit Go.Proofs
structure RowsNew (w : World) (base : Nat) (L : List RowB) : Prop where
  own : ∀ r ∈ L, w.ownsRow base 5 1 (.slice r.A r.n r.c) r.n (r.bs.map bv)
  apart : L.Pairwise fun r s => ∀ k, (Value.slice r.A r.n r.c).ownBlock = some k → (Value.slice s.A s.n s.c).ownBlock ≠ some k
section
variable {w w' : World} {base b : Nat} {L M : List RowB} {r : RowB}
theorem own_lower1 {t : TypeId} {v : Value} {n : Nat} {xs : List Value} (h : w.ownsRow b t 1 v n xs) (hb : base ≤ b) : w.ownsRow base t 1 v n xs := by
  refine ⟨h.1, ?_⟩
  rcases h.2 with h0 | ⟨g, cap, cur, hv, h1, h2⟩
  · exact .inl h0
  · exact .inr ⟨g, cap, cur, hv, by omega, h2⟩
theorem own_len {t : TypeId} {v : Value} {n : Nat} {xs : List Value} (h : w.ownsRow b t 1 v n xs) : xs.length = n := by simpa using h.1
theorem RowsNew.nil : RowsNew w base [] := ⟨fun r hr => (by cases hr), List.Pairwise.nil⟩
theorem RowsNew.at (h : RowsNew w base L) : RowsAt w w.heap.size L := fun r hr =>
  have ho := h.own r hr
  ⟨Rd.of_own ho, by simpa using own_len ho, (own_cap ho).1, (own_cap ho).2⟩
theorem RowsNew.below (h : RowsNew w base L) (hb : Below w.heap.size w w') : RowsNew w' base L := ⟨fun r hr => own_via (h.own r hr) hb, h.apart⟩
theorem RowsNew.drewN (h : RowsNew w base L) (q : Nat) : RowsNew (w.drewN q) base L := ⟨h.own, h.apart⟩
theorem RowsNew.lower (h : RowsNew w b L) (hb : base ≤ b) : RowsNew w base L := ⟨fun r hr => own_lower1 (h.own r hr) hb, h.apart⟩
theorem RowsNew.append (h : RowsNew w base L) (h' : RowsNew w b M) (hb : base ≤ b) (hl : ∀ r ∈ L, ∀ k, (Value.slice r.A r.n r.c).ownBlock = some k → k < b) : RowsNew w base (L ++ M) :=
  ⟨fun r hr => by
    rcases List.mem_append.1 hr with h1 | h1
    · exact h.own r h1
    · exact own_lower1 (h'.own r h1) hb,
  List.pairwise_append.2 ⟨h.apart, h'.apart, fun r hr s hs k hk he => by
    have h1 := hl r hr k hk
    have h2 := ((h'.own s hs).lt k he).1
    omega⟩⟩
/-- One that lies the other way round. -/
theorem RowsNew.prepend (h : RowsNew w base L) (h' : RowsNew w b M) (hb : base ≤ b) (hl : ∀ r ∈ L, ∀ k, (Value.slice r.A r.n r.c).ownBlock = some k → k < b) : RowsNew w base (M ++ L) :=
  ⟨fun r hr => by
    rcases List.mem_append.1 hr with h1 | h1
    · exact own_lower1 (h'.own r h1) hb
    · exact h.own r h1,
  List.pairwise_append.2 ⟨h'.apart, h.apart, fun s hs r hr k hk he => by
    have h1 := hl r hr k he
    have h2 := ((h'.own s hs).lt k hk).1
    omega⟩⟩
theorem RowsNew.lt (h : RowsNew w base L) : ∀ r ∈ L, ∀ k, (Value.slice r.A r.n r.c).ownBlock = some k → k < w.heap.size := fun r hr k hk => ((h.own r hr).lt k hk).2
theorem RowsNew.one (ho : w.ownsRow b 5 1 (.slice r.A r.n r.c) r.n (r.bs.map bv)) : RowsNew w b [r] :=
  ⟨fun x hx => by rw [List.mem_singleton] at hx; subst hx; exact ho, List.pairwise_singleton _ _⟩
/-- One more row, made in new memory. -/
theorem RowsNew.push (h : RowsNew w base L) (hb : Below w.heap.size w w') (hbase : base ≤ w.heap.size) (ho : w'.ownsRow w.heap.size 5 1 (.slice r.A r.n r.c) r.n (r.bs.map bv)) : RowsNew w' base (L ++ [r]) :=
  (h.below hb).append (RowsNew.one ho) hbase h.lt
theorem RowsNew.grown {t : TypeId} {v : Value} {n : Nat} {xs : List Value} (h : RowsNew w base L) (hg : w.grownBy w' v.ownBlock) (ho : w.ownsRow b t 1 v n xs) (ht : t ≠ 5) : RowsNew w' base L := by
  refine ⟨fun r hr => ?_, h.apart⟩
  have hr' := h.own r hr
  refine ⟨hr'.1, ?_⟩
  rcases hr'.2 with h0 | ⟨g, cap, cur, hv, h1, h2, h3⟩
  · exact .inl h0
  · refine .inr ⟨g, cap, cur, hv, h1, ?_, h3⟩
    have hne : v.ownBlock ≠ some g := fun he => by
      rcases ho.2 with ⟨rfl, _⟩ | ⟨g', cap', cur', rfl, _, h2', _⟩
      · simp [Value.ownBlock] at he
      · simp [Value.ownBlock] at he
        subst he
        exact ht (Ty.one (w := w) ⟨_, _, h2'⟩ ⟨_, _, h2⟩)
    exact (hg.block g (Blk.lt (t := 5) (cs := cur) h2) (fun e => hne e.symm)).trans h2
end
/-- New rows, and an error value. -/
def NewR (D : List (List UInt8)) (err : Int) (w : World) (e : Ending) (w' : World) : Prop :=
  ∃ A n c L, e = .returned (.tuple #[.slice A n c, .int .i64 err]) ∧ L.map (·.bs) = D ∧ L.length = n ∧ w'.ownsRow w.heap.size 22 1 (.slice A n c) n (L.map RowB.v) ∧ RowsNew w' w.heap.size L ∧ Below w.heap.size w w'
/-- append of one row to rows of the call's own. -/
theorem makeR (n m : Nat) (hnm : n ≤ m) (hm : m ≤ 1000000000) (W : World) : (Instr.makeSlice 28 (.int .i64 (n : Int)) (.int .i64 (m : Int))).run Try.prog W = .ok (.slice (some ⟨W.heap.size, 0, none⟩) n m) (W.alloc (.cells (madeCells #[.slice none 0 0] m) 22)) := by
  obtain ⟨i0, hi, hz0, hz1, hz2⟩ := info_parts infoRow
  have := run_make (P := Try.prog) W 28 22 i0 (.slice none 0 0) Try.underlying28 hi hz0 .i64 .i64 (n : Int) (m : Int) (by omega) (by omega) (by rw [hz2]; omega) (by omega)
  rw [hz1, Nat.mul_one, Int.toNat_natCast, Int.toNat_natCast] at this
  exact this
end Cib

end
