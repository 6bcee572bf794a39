/- Spans and texts that came in, opened. -/
import Derived.Test.YtijinfmokbaahaaUniZ
import Derived.Test.YtijinfmokbaahaaOrdL3
import Derived.Deep.Strs
set_option linter.unusedVariables false
set_option linter.unusedSimpArgs false
set_option maxRecDepth 20000
namespace Cib
open Go Go.RowKit Go.Proofs Go.ChangeShapes Go.WideShapes Go.Deep
theorem open_spans {H : Type} {enc : TypeId × Value → H} {w : World} {held : Bool} {fuel : Nat} {A : Option Addr} {n c : Nat} {x : DataW H × List MemPlace} (h : DataW.trod enc Try.prog w 0 (fun _ => true) held fuel 32 [.slice A n c] = some x) :
    ∃ L : List Sn, L.length = n ∧ n ≤ c ∧ c ≤ maxLen ∧ Rd w w.heap.size A (cellsL L) := by
  obtain ⟨rows, hrl, hl, hm, hr, hrows⟩ := open_rows Try.underlying32 Try.underlying26 (by kernel_rfl) (by kernel_rfl) (by decide) h
  have hall : ∀ r ∈ rows, ∃ y : Sn, r = [.string y.1, .string y.2] := by
    intro r hr
    obtain ⟨hlen, m, hf⟩ := hrows r hr
    obtain ⟨v0, y0, e0, t0⟩ := hf 0 _ rfl
    obtain ⟨v1, y1, e1, t1⟩ := hf 1 _ rfl
    obtain ⟨a, ha, _, wa⟩ := DataW.trod_string Try.underlying9 t0
    obtain ⟨b, hb, _, wb⟩ := DataW.trod_string Try.underlying9 t1
    simp only [List.cons.injEq, and_true] at ha hb
    subst ha
    subst hb
    have h3 : r.length = 2 := hlen
    refine ⟨(a, b), ?_⟩
    match r, h3 with
    | [r0, r1], _ =>
      simp at e0 e1
      rw [e0, e1]
  obtain ⟨l, rfl⟩ := list_map (fun y : Sn => [Value.string y.1, .string y.2]) rows hall
  exact ⟨l, by simpa using hrl, hl, hm, hr⟩
theorem open_texts {H : Type} {enc : TypeId × Value → H} {w : World} {held : Bool} {fuel : Nat} {A : Option Addr} {n c : Nat} {x : DataW H × List MemPlace} (h : DataW.trod enc Try.prog w 0 (fun _ => true) held fuel 23 [.slice A n c] = some x) :
    ∃ M : List ByteArray, M.length = n ∧ n ≤ c ∧ c ≤ maxLen ∧ Rd w w.heap.size A (M.map Value.string) := by
  rcases open_strs Try.underlying23 Try.underlying9 (by kernel_rfl) h with ⟨h0, _⟩ | ⟨a, len, cap, m, Sx, hcs, hb, hl, hm, hmm, hx, hi⟩
  · simp only [List.cons.injEq, Value.slice.injEq, and_true] at h0
    obtain ⟨rfl, rfl, rfl⟩ := h0
    exact ⟨[], rfl, Nat.le_refl _, Nat.zero_le _, Rd.nil _ _ _⟩
  · simp only [List.cons.injEq, Value.slice.injEq, and_true] at hcs
    obtain ⟨rfl, rfl, rfl⟩ := hcs
    rw [if_pos rfl] at hmm
    refine ⟨(List.range n).map Sx, by simp, hl, hm, fun hne => ⟨a, rfl, ?_, fun j hj => ?_⟩⟩
    · have hn : 0 < n := by
        rcases Nat.eq_zero_or_pos n with e0 | e0
        · subst e0; simp at hne
        · exact e0
      have := block_lt_of_cell (hi 0 (by omega)).1
      rwa [addr_add_block] at this
    · simp at hj
      rw [(hi j (by omega)).1]
      simp
theorem rd_none {w : World} {B n : Nat} {A : Option Addr} {L : List Sn} (h : Rd w B A (cellsL L)) (hL : L.length = n) : A = none → n = 0 := fun hA => by
  rcases Nat.eq_zero_or_pos n with h0 | h0
  · exact h0
  · obtain ⟨ad, e, _⟩ := h (fun e => by have := cellsL_len (L := L); rw [e] at this; simp at this; omega)
    rw [hA] at e
    cases e
end Cib
