/- Rows of bytes that the call made: each its own memory. -/
import Derived.Test.YtmabmhiombnngaaRowsB
import Derived.Test.YtmabmhiombnngaaTy
set_option linter.unusedVariables false
set_option linter.unusedSimpArgs false
set_option maxRecDepth 20000
namespace Cib
open Go Go.RowKit Go.Proofs
structure RowsNew (w : World) (base : Nat) (L : List RowB) : Prop where
  own : ∀ r ∈ L, w.ownsRow base 5 1 (.slice r.A r.n r.c) r.n (r.bs.map bv)
  apart : L.Pairwise fun r s => ∀ k, (Value.slice r.A r.n r.c).ownBlock = some k → (Value.slice s.A s.n s.c).ownBlock ≠ some k
section
variable {w w' : World} {base b : Nat} {L M : List RowB} {r : RowB}
theorem own_lower1 {t : TypeId} {v : Value} {n : Nat} {xs : List Value} (h : w.ownsRow b t 1 v n xs) (hb : base ≤ b) : w.ownsRow base t 1 v n xs := by
  refine ⟨h.1, ?_⟩
  rcases h.2 with h0 | ⟨g, cap, cur, hv, h1, h2⟩
  · exact .inl h0
  · exact .inr ⟨g, cap, cur, hv, by omega, h2⟩
theorem own_len {t : TypeId} {v : Value} {n : Nat} {xs : List Value} (h : w.ownsRow b t 1 v n xs) : xs.length = n := by simpa using h.1
theorem RowsNew.nil : RowsNew w base [] := ⟨fun r hr => (by cases hr), List.Pairwise.nil⟩
theorem RowsNew.at (h : RowsNew w base L) : RowsAt w w.heap.size L := fun r hr =>
  have ho := h.own r hr
  ⟨Rd.of_own ho, by simpa using own_len ho, (own_cap ho).1, (own_cap ho).2⟩
theorem RowsNew.below (h : RowsNew w base L) (hb : Below w.heap.size w w') : RowsNew w' base L := ⟨fun r hr => own_via (h.own r hr) hb, h.apart⟩
theorem RowsNew.drewN (h : RowsNew w base L) (q : Nat) : RowsNew (w.drewN q) base L := ⟨h.own, h.apart⟩
theorem RowsNew.lower (h : RowsNew w b L) (hb : base ≤ b) : RowsNew w base L := ⟨fun r hr => own_lower1 (h.own r hr) hb, h.apart⟩
theorem RowsNew.append (h : RowsNew w base L) (h' : RowsNew w b M) (hb : base ≤ b) (hl : ∀ r ∈ L, ∀ k, (Value.slice r.A r.n r.c).ownBlock = some k → k < b) : RowsNew w base (L ++ M) :=
  ⟨fun r hr => by
    rcases List.mem_append.1 hr with h1 | h1
    · exact h.own r h1
    · exact own_lower1 (h'.own r h1) hb,
  List.pairwise_append.2 ⟨h.apart, h'.apart, fun r hr s hs k hk he => by
    have h1 := hl r hr k hk
    have h2 := ((h'.own s hs).lt k he).1
    omega⟩⟩
/-- One that lies the other way round. -/
theorem RowsNew.prepend (h : RowsNew w base L) (h' : RowsNew w b M) (hb : base ≤ b) (hl : ∀ r ∈ L, ∀ k, (Value.slice r.A r.n r.c).ownBlock = some k → k < b) : RowsNew w base (M ++ L) :=
  ⟨fun r hr => by
    rcases List.mem_append.1 hr with h1 | h1
    · exact own_lower1 (h'.own r h1) hb
    · exact h.own r h1,
  List.pairwise_append.2 ⟨h'.apart, h.apart, fun s hs r hr k hk he => by
    have h1 := hl r hr k he
    have h2 := ((h'.own s hs).lt k hk).1
    omega⟩⟩
theorem RowsNew.lt (h : RowsNew w base L) : ∀ r ∈ L, ∀ k, (Value.slice r.A r.n r.c).ownBlock = some k → k < w.heap.size := fun r hr k hk => ((h.own r hr).lt k hk).2
theorem RowsNew.one (ho : w.ownsRow b 5 1 (.slice r.A r.n r.c) r.n (r.bs.map bv)) : RowsNew w b [r] :=
  ⟨fun x hx => by rw [List.mem_singleton] at hx; subst hx; exact ho, List.pairwise_singleton _ _⟩
/-- One more row, made in new memory. -/
theorem RowsNew.push (h : RowsNew w base L) (hb : Below w.heap.size w w') (hbase : base ≤ w.heap.size) (ho : w'.ownsRow w.heap.size 5 1 (.slice r.A r.n r.c) r.n (r.bs.map bv)) : RowsNew w' base (L ++ [r]) :=
  (h.below hb).append (RowsNew.one ho) hbase h.lt
theorem RowsNew.grown {t : TypeId} {v : Value} {n : Nat} {xs : List Value} (h : RowsNew w base L) (hg : w.grownBy w' v.ownBlock) (ho : w.ownsRow b t 1 v n xs) (ht : t ≠ 5) : RowsNew w' base L := by
  refine ⟨fun r hr => ?_, h.apart⟩
  have hr' := h.own r hr
  refine ⟨hr'.1, ?_⟩
  rcases hr'.2 with h0 | ⟨g, cap, cur, hv, h1, h2, h3⟩
  · exact .inl h0
  · refine .inr ⟨g, cap, cur, hv, h1, ?_, h3⟩
    have hne : v.ownBlock ≠ some g := fun he => by
      rcases ho.2 with ⟨rfl, _⟩ | ⟨g', cap', cur', rfl, _, h2', _⟩
      · simp [Value.ownBlock] at he
      · simp [Value.ownBlock] at he
        subst he
        exact ht (Ty.one (w := w) ⟨_, _, h2'⟩ ⟨_, _, h2⟩)
    exact (hg.block g (Blk.lt (t := 5) (cs := cur) h2) (fun e => hne e.symm)).trans h2
end
/-- New rows, and an error value. -/
def NewR (D : List (List UInt8)) (err : Int) (w : World) (e : Ending) (w' : World) : Prop :=
  ∃ A n c L, e = .returned (.tuple #[.slice A n c, .int .i64 err]) ∧ L.map (·.bs) = D ∧ L.length = n ∧ w'.ownsRow w.heap.size 26 1 (.slice A n c) n (L.map RowB.v) ∧ RowsNew w' w.heap.size L ∧ Below w.heap.size w w'
/-- append of one row to rows of the call's own. -/
theorem makeR (n m : Nat) (hnm : n ≤ m) (hm : m ≤ 1000000000) (W : World) : (Instr.makeSlice 33 (.int .i64 (n : Int)) (.int .i64 (m : Int))).run Try.prog W = .ok (.slice (some ⟨W.heap.size, 0, none⟩) n m) (W.alloc (.cells (madeCells #[.slice none 0 0] m) 26)) := by
  obtain ⟨i0, hi, hz0, hz1, hz2⟩ := info_parts infoRow
  have := run_make (P := Try.prog) W 33 26 i0 (.slice none 0 0) Try.underlying33 hi hz0 .i64 .i64 (n : Int) (m : Int) (by omega) (by omega) (by rw [hz2]; omega) (by omega)
  rw [hz1, Nat.mul_one, Int.toNat_natCast, Int.toNat_natCast] at this
  exact this
end Cib
