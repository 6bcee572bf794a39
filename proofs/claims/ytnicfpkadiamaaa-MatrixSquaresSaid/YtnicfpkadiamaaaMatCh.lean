/- Matrices in variables of a law's own. -/
import Derived.Test.YtnicfpkadiamaaaMatLw
set_option linter.unusedVariables false
set_option linter.unusedSimpArgs false
set_option maxRecDepth 40000
namespace Cib
open Go Go.RowKit Go.Proofs
/-- Matrices in variables of the call's own, and rows of the call's own. -/
structure ChP (w : World) (bx : List (Nat × Array Value)) (ow : List RowB) (wr : World) : Prop where
  blk : ∀ x ∈ bx, Blk wr x.1 24 x.2
  own : ∀ r ∈ ow, wr.ownsRow w.heap.size 5 1 (.slice r.A r.n r.c) r.n (r.bs.map bv)
  below : Below w.heap.size w wr
theorem mat_fld {w : World} {k g : Nat} {cs : Array Value} (hb : Blk w k 24 cs) (hf : Fld w g) : k ≠ g := by
  rintro rfl
  rcases hf with h | h <;> exact absurd (Ty.one hb.ty h.ty) (by decide)
theorem Fld.ty {w : World} {g : Nat} (hf : Fld w g) : Ty w g 67 := by rcases hf with h | h <;> exact h.ty
section
variable {w wr w' : World} {bx : List (Nat × Array Value)} {ow : List RowB} {g : Nat}
theorem ChP.via (h : ChP w bx ow wr) (hb : Below wr.heap.size wr w') : ChP w bx ow w' := ⟨fun x hx => (h.blk x hx).below hb (h.blk x hx).lt, fun r hr => own_belowS (h.own r hr) hb, h.below.via hb⟩
theorem ChP.stp (h : ChP w bx ow wr) (hf : Fld wr g) (hg : g ≥ w.heap.size) (hs : Stp g wr w') : ChP w bx ow w' :=
  ⟨fun x hx => (hs.oth _ (h.blk x hx).lt (mat_fld (h.blk x hx) hf)).trans (h.blk x hx), fun r hr => own_stp (h.own r hr) hs hf.ty, hs.below h.below hg h.below.size⟩
theorem ChP.push (h : ChP w bx ow w') {b : Nat} (hb : w.heap.size ≤ b) (r c : Int) {A : Option Addr} {n k : Nat} {F : List UInt8} (ho : w'.ownsRow b 5 1 (.slice A n k) n (F.map bv)) :
    ChP w ((w'.heap.size, #[.int .i64 r, .int .i64 c, .slice A n k]) :: bx) (⟨A, n, k, F⟩ :: ow) (w'.alloc (.cells #[.int .i64 r, .int .i64 c, .slice A n k] 24)) := by
  have hal := (Below.refl w'.heap.size w').alloc (Nat.le_refl _) (.cells #[.int .i64 r, .int .i64 c, .slice A n k] 24)
  have h' := h.via hal
  refine ⟨fun x hx => ?_, fun r hr => ?_, h'.below⟩
  · rcases List.mem_cons.1 hx with rfl | hx
    · exact Blk.new _ _ _
    · exact h'.blk x hx
  · rcases List.mem_cons.1 hr with rfl | hr
    · exact own_lowerS (own_belowS ho hal) hb
    · exact h'.own r hr
theorem ChP.cells (h : ChP w bx ow wr) {k : Nat} {r c : Int} {A : Option Addr} {n m : Nat} (hm : (k, #[.int .i64 r, .int .i64 c, .slice A n m]) ∈ bx) : wr.cell? ⟨k, 0, none⟩ = some (.int .i64 r) ∧ wr.cell? ⟨k, 1, none⟩ = some (.int .i64 c) ∧ wr.cell? ⟨k, 2, none⟩ = some (.slice A n m) :=
  ⟨(h.blk _ hm).cell 0, (h.blk _ hm).cell 1, (h.blk _ hm).cell 2⟩
end
theorem ChP.three (w : World) (M1 M2 M3 : Array Value) : ChP w [(w.heap.size + 1 + 1, M3), (w.heap.size + 1, M2), (w.heap.size, M1)] [] (((w.alloc (.cells M1 24)).alloc (.cells M2 24)).alloc (.cells M3 24)) := by
  refine ⟨fun x hx => ?_, fun r hr => (by cases hr), (((Below.refl _ _).alloc (Nat.le_refl _) _).alloc (by simp) _).alloc (by simp; omega) _⟩
  simp only [List.mem_cons, List.not_mem_nil, or_false] at hx
  rcases hx with rfl | rfl | rfl
  · have := Blk.new ((w.alloc (.cells M1 24)).alloc (.cells M2 24)) 24 M3
    simpa using this
  · have := (Blk.new (w.alloc (.cells M1 24)) 24 M2).alloc (.cells M3 24)
    simpa using this
  · exact ((Blk.new w _ _).alloc _).alloc _
/-- A matrix's numbers, read apart from the field. -/
structure MIn (g : Nat) (W : World) (A : Option Addr) (n k : Nat) (bs : List UInt8) : Prop where
  rd : Rd W W.heap.size A (bs.map bv)
  off : 0 < n → ∀ ad, A = some ad → ad.block ≠ g
  len : bs.length = n
  cap : n ≤ k
theorem MIn.own {g b : Nat} {W : World} {A : Option Addr} {n k : Nat} {bs : List UInt8} (ho : W.ownsRow b 5 1 (.slice A n k) n (bs.map bv)) (hf : Fld W g) (hl : bs.length = n) : MIn g W A n k bs := by
  refine ⟨Rd.of_own ho, fun h0 ad e => ?_, hl, (own_cap ho).1⟩
  subst e
  intro e
  rcases ho.2 with ⟨hv, _⟩ | ⟨k', cap, cur, hv, _, h2, _⟩
  · injection hv with hv
    cases hv
  · injection hv with hv
    injection hv with hv
    subst hv
    simp only at e
    subst e
    exact absurd (Ty.one ⟨_, _, h2⟩ hf.ty) (by decide)
theorem same_own {w W : World} (r c : Int) {x y : RowB} (h : W.ownsRow w.heap.size 5 1 (.slice x.A x.n x.c) x.n (x.bs.map bv)) (h' : W.ownsRow w.heap.size 5 1 (.slice y.A y.n y.c) y.n (y.bs.map bv)) (he : y.bs = x.bs) (hl : x.bs.length = x.n) :
    Calls Try.prog 14 #[.agg #[.int .i64 r, .int .i64 c, .slice x.A x.n x.c], .agg #[.int .i64 r, .int .i64 c, .slice y.A y.n y.c]] W fun e w' => e = .returned (.bool true) ∧ Below W.heap.size W w' := by
  have hl' : y.bs.length = y.n := by have := h'.1; simpa using this
  have := refSame4 r c x.A x.n x.c x.bs r c y.A y.n y.c y.bs W W.heap.size (Nat.le_refl _) (Rd.of_own h) hl (Rd.of_own h') hl'
  rw [show smB r c x.bs r c y.bs = true by rw [he]; simp [smB]] at this
  exact this
theorem in_at {w W : World} {A : Option Addr} {n k : Nat} {bs : List UInt8} (h : Rd w w.heap.size A (bs.map bv)) (hl : bs.length = n) (hk : n ≤ k) {g : Nat} (hb : Below w.heap.size w W) (hg : g ≥ w.heap.size) : MIn g W A n k bs :=
  ⟨(h.below hb).more hb.size, fun h0 ad e => by
    obtain ⟨ad', e', hb', _⟩ := h (by intro e; rw [List.map_eq_nil_iff] at e; rw [e] at hl; simp at hl; omega)
    rw [e] at e'
    injection e' with e'
    subst e'
    omega, hl, hk⟩
/-- A matrix, or none, and a number of an error; in new memory. -/
def AnyE (r c : Int) (n : Nat) (bs : List UInt8) (err : Int) (w : World) (e : Ending) (w' : World) : Prop :=
  ∃ A k, e = .returned (.tuple #[.agg (mv r c A n k), .int .i64 err]) ∧ w'.ownsRow w.heap.size 5 1 (.slice A n k) n (bs.map bv) ∧ Below w.heap.size w w'
end Cib
