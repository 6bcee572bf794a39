/- Order: the draw of xorshift. -/
import Derived.Test.YtijinfmokbaahaaOrdS
import Derived.Laws.Bits64b
set_option linter.unusedVariables false
set_option linter.unusedSimpArgs false
set_option maxRecDepth 20000
namespace Cib
open Go Go.RowKit Go.Proofs
theorem xorN (x y : Int) : ∃ N : Nat, N < 18446744073709551616 ∧ bits .xor .u64 x y = (N : Int) := by
  unfold bits
  simp only []
  rw [IntKind.wrap_u64]
  exact ⟨_ % 18446744073709551616, Nat.mod_lt _ (by decide), by rfl⟩
theorem put1 {g q B : Nat} {T : TypeId} {d : Array Sn} {w0 w : World} {v : Value} (hl : Lies w g d) (h : Blk w q T #[v]) (hgq : g ≠ q) (hB : B ≤ q) (hb : Below B w0 w) (u : Value) : ∃ w1, (w.setCell ⟨q, 0, none⟩ u).drew = w1 ∧ Lies w1 g d ∧ Blk w1 q T #[u] ∧ Below B w0 w1 :=
  ⟨_, rfl, (hl.far hgq u).drewN 1, by have h2 := h.set 0 u; have e : (#[v] : Array Value).setIfInBounds 0 u = #[u] := (by simp); rw [e] at h2; exact h2.drewN 1, below_drewN (hb.setCell hB _) 1⟩
set_option maxHeartbeats 2000000 in
theorem ordXor (g q X B : Nat) (d : Array Sn) (w : World) (hX : X < 18446744073709551616) (hl : Lies w g d) (h : Blk w q 73 #[.int .u64 X]) (hgq : g ≠ q) (hB : B ≤ q) : Calls Try.prog 57 #[.pointer (some ⟨q, 0, none⟩)] w fun e w' =>
    ∃ R : Nat, e = .returned (.int .u64 R) ∧ R < 18446744073709551616 ∧ Lies w' g d ∧ Blk w' q 73 #[.int .u64 R] ∧ Below B w w' := by
  obtain ⟨A, lA, e1⟩ := xorN (X : Int) (IntKind.u64.wrap ((X : Int) * 8192))
  obtain ⟨C, lC, e2⟩ := xorN (A : Int) ((A : Int) / 128)
  obtain ⟨R, lR, e3⟩ := xorN (C : Int) (IntKind.u64.wrap ((C : Int) * 131072))
  have HL := Lib.hid hl
  have HQ := Lib.hid h
  have hc := h.cell 0
  have hf := h.frozen 0
  simp only [List.getElem?_toArray, List.getElem?_cons_zero] at hc
  clear h hl
  go_enter Try.func57, Try.ntmps57
  go_wp2
  go_region
  try go_wp2
  obtain ⟨w1, hw1, l1, q1, b1⟩ := put1 HL.out HQ.out hgq hB (Below.refl B w) (.int .u64 (A : Int))
  rw [hw1]
  have L1 := Lib.hid l1
  have Q1 := Lib.hid q1
  have B1 := Lib.hid b1
  clear hw1 l1 q1 b1 hc hf
  have hc := Q1.out.cell 0
  have hf := Q1.out.frozen 0
  simp only [List.getElem?_toArray, List.getElem?_cons_zero] at hc
  go_region
  try go_wp2
  obtain ⟨w2, hw2, l2, q2, b2⟩ := put1 L1.out Q1.out hgq hB B1.out (.int .u64 (C : Int))
  rw [hw2]
  have L2 := Lib.hid l2
  have Q2 := Lib.hid q2
  have B2 := Lib.hid b2
  clear hw2 l2 q2 b2 hc hf
  have hc := Q2.out.cell 0
  have hf := Q2.out.frozen 0
  simp only [List.getElem?_toArray, List.getElem?_cons_zero] at hc
  go_region
  try go_wp2
  obtain ⟨w3, hw3, l3, q3, b3⟩ := put1 L2.out Q2.out hgq hB B2.out (.int .u64 (R : Int))
  rw [hw3]
  have L3 := Lib.hid l3
  have Q3 := Lib.hid q3
  have B3 := Lib.hid b3
  clear hw3 l3 q3 b3 hc hf
  have hc := Q3.out.cell 0
  have hf := Q3.out.frozen 0
  simp only [List.getElem?_toArray, List.getElem?_cons_zero] at hc
  go_wp2
  go_ret
  exact ⟨R, rfl, lR, L3.out, Q3.out, B3.out⟩
end Cib
