/- A record that came in, opened. -/
import Derived.Test.YtmabmhiombnngaaFrmG
import Derived.Test.YtmabmhiombnngaaOpenI
import Derived.Test.YtmabmhiombnngaaRowsK
import Derived.OpenShut
import Derived.ShutString
import Derived.ChangeMaps5
set_option linter.unusedVariables false
set_option linter.unusedSimpArgs false
set_option maxRecDepth 20000
namespace Cib
open Go Go.RowKit Go.Proofs Go.ChangeShapes Go.WideShapes Go.Deep
/-- A change as it came in. -/
structure CgM.In (w : World) (B : Nat) (x : CgM) : Prop where
  rd : Rd w B x.A (x.c.blob.places.map (Value.int .i64))
  len : x.c.blob.places.length = x.n
  cap : x.n ≤ x.k
  max : x.k ≤ maxLen
  gen : x.c.blob.gen < 18446744073709551616
  key : x.c.key.size ≤ maxLen
  siz : -9223372036854775808 ≤ x.c.blob.size ∧ x.c.blob.size ≤ 9223372036854775807
theorem CgM.In.at {w : World} {B : Nat} {x : CgM} (h : x.In w B) (hn : x.n ≤ 402) (hk : x.c.key.size ≤ 100) : x.At w B :=
  ⟨h.rd, h.len, by omega, h.gen, by omega, h.siz⟩
section
variable {H : Type} {enc : TypeId × Value → H} {w : World} {held : Bool}
theorem open_elems {P : Program} {t e : TypeId} {C fuel : Nat} {A : Option Addr} {n c : Nat} {x : DataW H × List MemPlace} (ht : P.underlying t = some (.slice e)) (hC : P.cellsOf e = C) (h0 : 0 < C)
    (h : DataW.trod enc P w 0 (fun _ => true) held fuel t [.slice A n c] = some x) :
    ∃ rows : List (List Value), rows.length = n ∧ n ≤ c ∧ c ≤ maxLen ∧ Rd w w.heap.size A rows.flatten ∧ ∀ r ∈ rows, r.length = C ∧ ∃ (m : Nat) (y : DataW H × List MemPlace), DataW.trod enc P w 0 (fun _ => true) held m e r = some y := by
  rcases open_slice ht h with h' | ⟨a, len, cap, m, k, D, Pl, hcs, hb, hl, hm, hmm, hx, hi⟩
  · have h1 := h'.1
    simp only [List.cons.injEq, Value.slice.injEq, and_true] at h1
    obtain ⟨rfl, rfl, rfl⟩ := h1
    exact ⟨[], rfl, Nat.le_refl _, Nat.zero_le _, Rd.nil _ _ _, by simp⟩
  · simp only [List.cons.injEq, Value.slice.injEq, and_true] at hcs
    obtain ⟨rfl, rfl, rfl⟩ := hcs
    rw [if_pos rfl] at hmm
    have hrow : ∀ i, i < n → ∃ cs' : List Value, cs'.length = C ∧ (∀ j, j < C → w.cell? (a.add (i * C + j)) = cs'[j]?) ∧ ∃ (m : Nat) (y : DataW H × List MemPlace), DataW.trod enc P w 0 (fun _ => true) held m e cs' = some y := by
      intro i hin
      obtain ⟨cs', hc, ht'⟩ := hi i (by omega)
      rw [hC] at hc
      obtain ⟨_, hcl, hat⟩ := World.cells?_some hc
      exact ⟨cs', hcl, fun j hj => by rw [← Go.Deep.add_add]; exact hat j hj, _, _, ht'⟩
    have hall : ∀ k, k ≤ n → ∃ rows : List (List Value), rows.length = k ∧ (∀ i (hi : i < rows.length), ∀ j, j < C → w.cell? (a.add (i * C + j)) = (rows[i])[j]?) ∧ ∀ r ∈ rows, r.length = C ∧ ∃ (m : Nat) (y : DataW H × List MemPlace), DataW.trod enc P w 0 (fun _ => true) held m e r = some y := by
      intro k
      induction k with
      | zero => exact fun _ => ⟨[], rfl, fun i hi => (by simp at hi), by simp⟩
      | succ k ih =>
        intro hk
        obtain ⟨L, h1, h2, h3⟩ := ih (by omega)
        obtain ⟨r, hr1, hr2, hr3⟩ := hrow k (by omega)
        refine ⟨L ++ [r], by simp [h1], fun i hi j hj => ?_, fun q hq => ?_⟩
        · by_cases hik : i < L.length
          · rw [List.getElem_append_left hik]
            exact h2 i hik j hj
          · have : i = k := by simp at hi; omega
            subst this
            rw [List.getElem_append_right (by omega)]
            simp only [h1, Nat.sub_self, List.getElem_cons_zero]
            exact hr2 j hj
        · rcases List.mem_append.1 hq with h4 | h4
          · exact h3 q h4
          · rw [List.mem_singleton] at h4
            subst h4
            exact ⟨hr1, hr3⟩
    obtain ⟨rows, h1, h2, h3⟩ := hall n (Nat.le_refl _)
    refine ⟨rows, h1, hl, hm, fun hne => ⟨a, rfl, ?_, fun q hq => ?_⟩, h3⟩
    · have hn0 : 0 < rows.length := by
        rcases Nat.eq_zero_or_pos rows.length with e0 | e0
        · exact absurd (by rw [List.eq_nil_of_length_eq_zero e0]; rfl) hne
        · exact e0
      have h5 := h2 0 hn0 0 h0
      rw [List.getElem?_eq_getElem (by rw [(h3 _ (List.getElem_mem hn0)).1]; exact h0)] at h5
      have := block_lt_of_cell h5
      rwa [addr_add_block] at this
    · have hs : ∀ r ∈ rows, r.length = C := fun r hr => (h3 r hr).1
      have hl2 := flat_length C rows hs
      rw [hl2] at hq
      have hq1 : q / C < rows.length := (Nat.div_lt_iff_lt_mul h0).2 hq
      have hq2 : q % C < C := Nat.mod_lt _ h0
      have hg := flat_get C rows hs (q / C) (q % C) hq1 hq2
      have hkk : q / C * C + q % C = q := by rw [Nat.mul_comm]; exact Nat.div_add_mod q C
      have h5 := h2 (q / C) hq1 (q % C) hq2
      rw [hkk] at hg h5
      rw [h5, ← hg]
      exact List.getElem?_eq_getElem _
theorem open_int1 {v : Value} {fuel : Nat} {x : DataW H × List MemPlace} (h : DataW.trod enc Try.prog w 0 (fun _ => true) held fuel 49 [v] = some x) :
    ∃ (A : Option Addr) (n c : Nat) (xs : List Int), v = .slice A n c ∧ xs.length = n ∧ n ≤ c ∧ c ≤ maxLen ∧ Rd w w.heap.size A (xs.map (Value.int .i64)) := by
  have h' := h
  rcases open_ints Try.underlying49 Try.underlying3 (by kernel_rfl) h' with ⟨hcs, _⟩ | ⟨a, l, c', zs, hcs, _⟩
  · simp only [List.cons.injEq, and_true] at hcs
    subst hcs
    exact ⟨none, 0, 0, [], rfl, rfl, Nat.le_refl _, Nat.zero_le _, Rd.nil _ _ _⟩
  · simp only [List.cons.injEq, and_true] at hcs
    subst hcs
    obtain ⟨xs, hn, hl, hm, hr, hz⟩ := open_introw h
    exact ⟨some a, l, c', xs, rfl, hn, hl, hm, hr⟩
theorem take1 {cs : List Value} {n i : Nat} (hl : cs.length = n) (hi : i < n) : (cs.drop i).take 1 = [cs[i]'(by omega)] := by
  rw [List.drop_eq_getElem_cons (by omega), List.take_succ_cons, List.take_zero]
theorem openBlob {fuel : Nat} {cs : List Value} {x : DataW H × List MemPlace} (h : DataW.trod enc Try.prog w 0 (fun _ => true) held fuel 55 cs = some x) :
    ∃ (A : Option Addr) (n c : Nat) (pl : List Int) (gen : Nat) (size : Int), cs = [.slice A n c, .int .u64 (gen : Int), .int .i64 size] ∧ pl.length = n ∧ n ≤ c ∧ c ≤ maxLen ∧ Rd w w.heap.size A (pl.map (Value.int .i64)) ∧ gen < 18446744073709551616 ∧ -9223372036854775808 ≤ size ∧ size ≤ 9223372036854775807 := by
  obtain ⟨xs, n, rfl, rfl, hl, hxl, hf⟩ := DataW.trod_struct Try.underlying55 h
  have hc : Try.prog.cellsOf 55 = 3 := by kernel_rfl
  rw [hc] at hl
  have hxl' : xs.length = 3 := hxl
  have c1 : Try.prog.cellsOf 49 = 1 := by kernel_rfl
  have c2 : Try.prog.cellsOf 22 = 1 := by kernel_rfl
  have c3 : Try.prog.cellsOf 3 = 1 := by kernel_rfl
  have f0 : DataW.trod enc Try.prog w 0 (fun _ => true) held n 49 ((cs.drop 0).take (Try.prog.cellsOf 49)) = xs[0]? := hf 0 _ rfl
  have f1 : DataW.trod enc Try.prog w 0 (fun _ => true) held n 22 ((cs.drop 1).take (Try.prog.cellsOf 22)) = xs[1]? := hf 1 _ rfl
  have f2 : DataW.trod enc Try.prog w 0 (fun _ => true) held n 3 ((cs.drop 2).take (Try.prog.cellsOf 3)) = xs[2]? := hf 2 _ rfl
  rw [c1, take1 hl (by omega), List.getElem?_eq_getElem (by omega)] at f0
  rw [c2, take1 hl (by omega), List.getElem?_eq_getElem (by omega)] at f1
  rw [c3, take1 hl (by omega), List.getElem?_eq_getElem (by omega)] at f2
  obtain ⟨A, k, c, pl, e0, h1, h2, h3, h4⟩ := open_int1 f0
  obtain ⟨b, e1, _, wb⟩ := DataW.trod_int Try.underlying22 f1
  obtain ⟨d, e2, _, wd⟩ := DataW.trod_int Try.underlying3 f2
  simp only [List.cons.injEq, and_true] at e1 e2
  obtain ⟨g, rfl, hg⟩ := wf_u64 wb
  refine ⟨A, k, c, pl, g, d, ?_, h1, h2, h3, h4, hg, wf_i64 wd⟩
  match cs, hl with
  | [r0, r1, r2], _ =>
    simp at e0 e1 e2
    rw [e0, e1, e2]
theorem openChg {fuel : Nat} {cs : List Value} {x : DataW H × List MemPlace} (h : DataW.trod enc Try.prog w 0 (fun _ => true) held fuel 57 cs = some x) :
    ∃ y : { y : CgM // y.In w w.heap.size }, cs = y.1.row := by
  obtain ⟨xs, n, rfl, rfl, hl, hxl, hf⟩ := DataW.trod_struct Try.underlying57 h
  have hc : Try.prog.cellsOf 57 = 5 := by kernel_rfl
  rw [hc] at hl
  have hxl' : xs.length = 3 := hxl
  have c1 : Try.prog.cellsOf 9 = 1 := by kernel_rfl
  have c2 : Try.prog.cellsOf 4 = 1 := by kernel_rfl
  have c3 : Try.prog.cellsOf 55 = 3 := by kernel_rfl
  have f0 : DataW.trod enc Try.prog w 0 (fun _ => true) held n 9 ((cs.drop 0).take (Try.prog.cellsOf 9)) = xs[0]? := hf 0 _ rfl
  have f1 : DataW.trod enc Try.prog w 0 (fun _ => true) held n 4 ((cs.drop 1).take (Try.prog.cellsOf 4)) = xs[1]? := hf 1 _ rfl
  have f2 : DataW.trod enc Try.prog w 0 (fun _ => true) held n 55 ((cs.drop 2).take (Try.prog.cellsOf 55)) = xs[2]? := hf 2 _ rfl
  rw [c1, take1 hl (by omega), List.getElem?_eq_getElem (by omega)] at f0
  rw [c2, take1 hl (by omega), List.getElem?_eq_getElem (by omega)] at f1
  rw [c3, List.getElem?_eq_getElem (by omega)] at f2
  obtain ⟨s, e0, _, ws⟩ := DataW.trod_string Try.underlying9 f0
  obtain ⟨b, e1, _⟩ := DataW.trod_bool Try.underlying4 f1
  obtain ⟨A, k, c, pl, g, d, e2, h1, h2, h3, h4, hg, hd⟩ := openBlob f2
  refine ⟨⟨⟨⟨s, b, ⟨pl, g, d⟩⟩, A, k, c⟩, ⟨h4, h1, h2, h3, hg, ws, hd⟩⟩, ?_⟩
  match cs, hl with
  | [r0, r1, r2, r3, r4], _ =>
    simp at e0 e1 e2
    obtain ⟨e2, e3, e4⟩ := e2
    rw [e0, e1, e2, e3, e4]
    rfl
theorem openRec {fuel : Nat} {cs : Array Value} {x : DataW H × List MemPlace} (h : DataW.trod enc Try.prog w 0 (fun _ => true) held fuel 25 cs.toList = some x) :
    ∃ (st : Nat) (A : Option Addr) (n k : Nat) (X : List CgM), cs = #[.int .u64 (st : Int), .slice A n k] ∧ st < 18446744073709551616 ∧ X.length = n ∧ n ≤ k ∧ k ≤ maxLen ∧ Rd w w.heap.size A (X.map CgM.row).flatten ∧ ∀ y ∈ X, y.In w w.heap.size := by
  obtain ⟨xs, n, rfl, rfl, hl, hxl, hf⟩ := DataW.trod_struct Try.underlying25 h
  have hc : Try.prog.cellsOf 25 = 2 := by kernel_rfl
  rw [hc] at hl
  have hxl' : xs.length = 2 := hxl
  have c1 : Try.prog.cellsOf 22 = 1 := by kernel_rfl
  have c2 : Try.prog.cellsOf 23 = 1 := by kernel_rfl
  have f0 : DataW.trod enc Try.prog w 0 (fun _ => true) held n 22 ((cs.toList.drop 0).take (Try.prog.cellsOf 22)) = xs[0]? := hf 0 _ rfl
  have f1 : DataW.trod enc Try.prog w 0 (fun _ => true) held n 23 ((cs.toList.drop 1).take (Try.prog.cellsOf 23)) = xs[1]? := hf 1 _ rfl
  rw [c1, take1 hl (by omega), List.getElem?_eq_getElem (by omega)] at f0
  rw [c2, take1 hl (by omega), List.getElem?_eq_getElem (by omega)] at f1
  obtain ⟨b, e0, _, wb⟩ := DataW.trod_int Try.underlying22 f0
  simp only [List.cons.injEq, and_true] at e0
  obtain ⟨st, rfl, hst⟩ := wf_u64 wb
  have hsl : ∃ A k c, cs.toList[1]'(by omega) = .slice A k c := by
    rcases open_slice Try.underlying23 f1 with h' | ⟨a, len, cap, _, _, _, _, hcs, _⟩
    · have h1 := h'.1
      simp only [List.cons.injEq, and_true] at h1
      exact ⟨_, _, _, h1⟩
    · simp only [List.cons.injEq, and_true] at hcs
      exact ⟨_, _, _, hcs⟩
  obtain ⟨A, k, c, e1⟩ := hsl
  rw [e1] at f1
  obtain ⟨rows, h1, h2, h3, h4, h5⟩ := open_elems (C := 5) Try.underlying23 (by kernel_rfl) (by decide) f1
  obtain ⟨l, rfl⟩ := list_map (fun y : { y : CgM // y.In w w.heap.size } => y.1.row) rows (fun r hr => by
    obtain ⟨_, m, y, hy⟩ := h5 r hr
    exact openChg hy)
  refine ⟨st, A, k, c, l.map (·.1), ?_, hst, by simpa using h1, h2, h3, by rw [List.map_map]; exact h4, fun y hy => ?_⟩
  · apply Array.toList_inj.1
    apply List.ext_getElem
    · rw [hl]
      rfl
    · intro i h1 h2
      have : i = 0 ∨ i = 1 := by omega
      rcases this with rfl | rfl
      · exact e0
      · exact e1
  · obtain ⟨z, _, rfl⟩ := List.mem_map.1 hy
    exact z.2
end
end Cib
