/- Slices of structs whose fields are one cell each, opened to rows of cells: plain lemmas over any program. -/
import Derived.Test.YtijinfmokbaahaaBase
import Derived.Deep.Slices
import Derived.Deep.Fields
import Derived.ChangeSame
set_option linter.unusedVariables false
set_option linter.unusedSimpArgs false
namespace Cib
open Go Go.RowKit Go.ChangeShapes Go.WideShapes Go.Deep

theorem flat_get {α : Type} (s : Nat) : ∀ (rows : List (List α)) (h : ∀ r ∈ rows, r.length = s) (i j : Nat) (hi : i < rows.length) (hj : j < s),
    rows.flatten[i * s + j]? = (rows[i])[j]?
  | [], _, i, _, hi, _ => by simp at hi
  | r :: rows, h, 0, j, _, hj => by
    have hr := h r (by simp)
    rw [List.flatten_cons, Nat.zero_mul, Nat.zero_add, List.getElem?_append_left (by omega)]
    rfl
  | r :: rows, h, i + 1, j, hi, hj => by
    have hr := h r (by simp)
    have ih := flat_get s rows (fun x hx => h x (by simp [hx])) i j (by simpa using hi) hj
    rw [List.flatten_cons, List.getElem?_append_right (by rw [hr, Nat.succ_mul]; omega), hr, show (i + 1) * s + j - s = i * s + j from by rw [Nat.succ_mul]; omega, ih]
    rfl
theorem flat_length {α : Type} (s : Nat) : ∀ (rows : List (List α)) (h : ∀ r ∈ rows, r.length = s), rows.flatten.length = rows.length * s
  | [], _ => by simp
  | r :: rows, h => by
    rw [List.flatten_cons, List.length_append, h r (by simp), flat_length s rows (fun x hx => h x (by simp [hx])), List.length_cons, Nat.succ_mul]
    omega
/-- The cell of field j of element i. -/
theorem Rd.field {w : World} {B : Nat} {A : Option Addr} {rows : List (List Value)} {s : Nat} (h : Rd w B A rows.flatten) (hs : ∀ r ∈ rows, r.length = s) {i : Nat} (hi : i < rows.length) (h0 : 0 < s) :
    ∃ ad, A = some ad ∧ ad.block < B ∧ ∀ j v, (rows[i])[j]? = some v → w.cell? (ad.add (i * s + j)) = some v := by
  have hl := flat_length s rows hs
  have hm : i * s + s ≤ rows.length * s := by
    rw [← Nat.succ_mul]
    exact Nat.mul_le_mul_right _ hi
  obtain ⟨ad, e, hb, hc⟩ := h (by
    intro e
    rw [e] at hl
    simp at hl
    omega)
  refine ⟨ad, e, hb, fun j v hv => ?_⟩
  have hr := hs rows[i] (List.getElem_mem hi)
  have hj : j < s := by
    have := (List.getElem?_eq_some_iff.1 hv).1
    omega
  have hg := flat_get s rows hs i j hi hj
  rw [hv] at hg
  obtain ⟨hk, he⟩ := List.getElem?_eq_some_iff.1 hg
  rw [hc _ hk, he]

theorem Rd.spot {w : World} {B : Nat} {A : Option Addr} {vs : List Value} (h : Rd w B A vs) (hn : vs ≠ []) :
    ∃ b off, A = some ⟨b, off, none⟩ ∧ b < B ∧ ∀ j (hj : j < vs.length), w.cell? ⟨b, off + j, none⟩ = some vs[j] := by
  obtain ⟨⟨b, off, spot⟩, e, hb, hc⟩ := h hn
  have hl : 0 < vs.length := List.length_pos_iff.2 hn
  have h0 := hc 0 hl
  have hs : spot = none := by simpa [Addr.add] using World.cell?_spot h0
  subst hs
  refine ⟨b, off, e, hb, fun j hj => ?_⟩
  have := hc j hj
  have ea : (⟨b, off, none⟩ : Addr).add j = ⟨b, off + j, none⟩ := by
    unfold Addr.add
    split
    · simp_all
    · rfl
  rwa [ea] at this
/-- The cell of field j of element i, block and place written out. -/
theorem Rd.fieldAt {w : World} {B : Nat} {A : Option Addr} {rows : List (List Value)} {s : Nat} (h : Rd w B A rows.flatten) (hs : ∀ r ∈ rows, r.length = s) {i : Nat} (hi : i < rows.length) (h0 : 0 < s) :
    ∃ b off, A = some ⟨b, off, none⟩ ∧ b < B ∧ ∀ j v, (rows[i])[j]? = some v → w.cell? ⟨b, off + i * s + j, none⟩ = some v := by
  have hl := flat_length s rows hs
  have hm : i * s + s ≤ rows.length * s := by
    rw [← Nat.succ_mul]
    exact Nat.mul_le_mul_right _ hi
  obtain ⟨b, off, e, hb, hc⟩ := h.spot (by
    intro e
    rw [e] at hl
    simp at hl
    omega)
  refine ⟨b, off, e, hb, fun j v hv => ?_⟩
  have hr := hs rows[i] (List.getElem_mem hi)
  have hj : j < s := by
    have := (List.getElem?_eq_some_iff.1 hv).1
    omega
  have hg := flat_get s rows hs i j hi hj
  rw [hv] at hg
  obtain ⟨hk, he⟩ := List.getElem?_eq_some_iff.1 hg
  have := hc _ hk
  rw [he] at this
  rwa [← Nat.add_assoc] at this

theorem list_map {α β : Type} (f : β → α) : ∀ (l : List α) (h : ∀ x ∈ l, ∃ y, x = f y), ∃ m : List β, l = m.map f
  | [], _ => ⟨[], rfl⟩
  | x :: l, h => by
    obtain ⟨y, hy⟩ := h x (by simp)
    obtain ⟨m, hm⟩ := list_map f l (fun z hz => h z (by simp [hz]))
    exact ⟨y :: m, by rw [hy, hm]; rfl⟩

section
variable {H : Type} {enc : TypeId × Value → H} {P : Program} {w : World} {held : Bool}
theorem open_fields {t e : TypeId} {fs : Array Field} {fuel : Nat} {cs : List Value} {x : DataW H × List MemPlace} (ht : P.underlying t = some (.slice e)) (he : P.underlying e = some (.struct fs))
    (hone : oneCellFields P fs = true) (hC : P.cellsOf e = fs.size) (h : DataW.trod enc P w 0 (fun _ => true) held fuel t cs = some x) :
    (cs = [.slice none 0 0]) ∨
    ∃ (a : Addr) (len cap : Nat), cs = [.slice (some a) len cap] ∧ len ≤ cap ∧ cap ≤ maxLen ∧
      ∀ i, i < cap → ∃ n : Nat, ∀ (j : Nat) (f : Field), fs[j]? = some f → ∃ (v : Value) (y : DataW H × List MemPlace), w.cell? (a.add (i * fs.size + j)) = some v ∧ DataW.trod enc P w 0 (fun _ => true) held n f.type [v] = some y := by
  rcases open_slice ht h with h0 | ⟨a, len, cap, m, n, D, Pl, hcs, hb, hl, hm, hmm, hx, hi⟩
  · exact .inl h0.1
  · refine .inr ⟨a, len, cap, hcs, hl, hm, fun i him => ?_⟩
    rw [if_pos rfl] at hmm
    obtain ⟨cs', hc, ht'⟩ := hi i (by omega)
    rw [hC] at hc
    obtain ⟨ys, n', hn', hy, hlen, hyl, hf⟩ := DataW.trod_struct he ht'
    obtain ⟨_, hcl, hat⟩ := World.cells?_some hc
    refine ⟨n', fun j f hj => ?_⟩
    obtain ⟨ho, hk⟩ := hone_of hone j f hj
    have hjl : j < fs.size := (Array.getElem?_eq_some_iff.1 hj).1
    have hcell := hat j hjl
    have hv : cs'[j]? = some (cs'[j]'(by omega)) := List.getElem?_eq_getElem (by omega)
    have h1 := hf j f hj
    rw [ho, hk] at h1
    have hone' : (cs'.drop j).take 1 = [cs'[j]'(by omega)] := by
      rw [List.drop_eq_getElem_cons (by omega)]
      rfl
    rw [hone'] at h1
    have hys : ys[j]? = some (ys[j]'(by omega)) := List.getElem?_eq_getElem (by omega)
    refine ⟨_, _, ?_, h1.trans hys⟩
    rw [← Go.Deep.add_add, hcell, hv]

/-- A slice of structs that came in, as rows of cells. -/
theorem open_rows {t e : TypeId} {fs : Array Field} {fuel : Nat} {A : Option Addr} {n c : Nat} {x : DataW H × List MemPlace} (ht : P.underlying t = some (.slice e)) (he : P.underlying e = some (.struct fs))
    (hone : oneCellFields P fs = true) (hC : P.cellsOf e = fs.size) (h0 : 0 < fs.size) (h : DataW.trod enc P w 0 (fun _ => true) held fuel t [.slice A n c] = some x) :
    ∃ rows : List (List Value), rows.length = n ∧ n ≤ c ∧ c ≤ maxLen ∧ Rd w w.heap.size A rows.flatten ∧
      ∀ r ∈ rows, r.length = fs.size ∧ ∃ m : Nat, ∀ (j : Nat) (f : Field), fs[j]? = some f → ∃ (v : Value) (y : DataW H × List MemPlace), r[j]? = some v ∧ DataW.trod enc P w 0 (fun _ => true) held m f.type [v] = some y := by
  rcases open_fields ht he hone hC h with h' | ⟨a, len, cap, hcs, hl, hm, hi⟩
  · simp only [List.cons.injEq, Value.slice.injEq, and_true] at h'
    obtain ⟨rfl, rfl, rfl⟩ := h'
    exact ⟨[], rfl, Nat.le_refl _, Nat.zero_le _, Rd.nil _ _ _, by simp⟩
  · simp only [List.cons.injEq, Value.slice.injEq, and_true] at hcs
    obtain ⟨rfl, rfl, rfl⟩ := hcs
    have hrow : ∀ i, i < n → ∀ j, j < fs.size → ∃ v, w.cell? (a.add (i * fs.size + j)) = some v := by
      intro i hin j hj
      obtain ⟨m, hf⟩ := hi i (by omega)
      obtain ⟨v, y, hc, _⟩ := hf j fs[j] (Array.getElem?_eq_getElem hj)
      exact ⟨v, hc⟩
    refine ⟨(List.range n).map fun i => (List.range fs.size).map fun j => (w.cell? (a.add (i * fs.size + j))).getD undef, by simp, hl, hm, ?_, ?_⟩
    · intro hne
      have hn : 0 < n := by
        rcases Nat.eq_zero_or_pos n with e0 | e0
        · subst e0
          simp at hne
        · exact e0
      refine ⟨a, rfl, ?_, fun k hk => ?_⟩
      · obtain ⟨v, hc⟩ := hrow 0 hn 0 h0
        have := block_lt_of_cell hc
        rwa [addr_add_block] at this
      · have hs : ∀ r ∈ ((List.range n).map fun i => (List.range fs.size).map fun j => (w.cell? (a.add (i * fs.size + j))).getD undef), r.length = fs.size := by
          intro r hr
          obtain ⟨i, _, rfl⟩ := List.mem_map.1 hr
          simp
        have hl2 := flat_length fs.size _ hs
        rw [hl2] at hk
        simp only [List.length_map, List.length_range] at hk
        have hq : k / fs.size < n := (Nat.div_lt_iff_lt_mul h0).2 hk
        have hr : k % fs.size < fs.size := Nat.mod_lt _ h0
        have hg := flat_get fs.size _ hs (k / fs.size) (k % fs.size) (by simpa using hq) hr
        have hkk : k / fs.size * fs.size + k % fs.size = k := by rw [Nat.mul_comm]; exact Nat.div_add_mod k fs.size
        rw [hkk] at hg
        obtain ⟨v, hc⟩ := hrow _ hq _ hr
        rw [hkk] at hc
        simp [hr, hkk, hc] at hg
        obtain ⟨_, he2⟩ := List.getElem?_eq_some_iff.1 hg
        rw [hc, he2]
    · intro r hr
      obtain ⟨i, hin, rfl⟩ := List.mem_map.1 hr
      rw [List.mem_range] at hin
      refine ⟨by simp, ?_⟩
      obtain ⟨m, hf⟩ := hi i (by omega)
      refine ⟨m, fun j f hj => ?_⟩
      obtain ⟨v, y, hc, ht2⟩ := hf j f hj
      have hjl : j < fs.size := (Array.getElem?_eq_some_iff.1 hj).1
      exact ⟨v, y, by simp [hjl, hc], ht2⟩
end
end Cib
