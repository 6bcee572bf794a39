/- Order: the choice of a pivot. -/
import Derived.Test.YtijinfmokbaahaaOrdT
set_option linter.unusedVariables false
set_option linter.unusedSimpArgs false
set_option maxRecDepth 20000
namespace Cib
open Go Go.RowKit Go.Proofs
set_option maxHeartbeats 2000000 in
theorem ordChoose (g n c a b B : Nat) (d : Array Sn) (w : World) (h : Lies w g d) (hn : d.size = n) (hg : B ≤ g) (hab : a + 12 < b) (hb : b ≤ n) (hs : n ≤ 45) : Calls Try.prog 47 #[.slice (some ⟨g, 0, none⟩) n c, .int .i64 a, .int .i64 b, cmpV] w fun e w' =>
    ∃ (p : Nat) (t : Int), e = .returned (.tuple #[.int .i64 p, .int .i64 t]) ∧ a ≤ p ∧ p < b ∧ t ≠ 2 ∧ Lies w' g d ∧ Below B w w' := by
  obtain ⟨l, hl⟩ : ∃ l : Nat, l = b - a := ⟨_, rfl⟩
  obtain ⟨r, hr⟩ : ∃ r : Nat, r = l / 4 := ⟨_, rfl⟩
  have hgw := h.lt
  have hBw : B ≤ w.heap.size := by omega
  have HBA := Lib.hid ((Below.refl B w).alloc hBw (.cells #[.int .i64 0] 3))
  have hm := (ordMedian g n c (a + r) (a + r * 2) (a + r * 3) w.heap.size 0 B d (w.alloc (.cells #[.int .i64 0] 3)) (h.below ((Below.refl _ _).alloc (Nat.le_refl _) _) hgw) (Blk.new _ _ _) (by omega) hn hg hBw (by omega) (by omega) (by omega) hs (by omega))
  rw [show (((a + r : Nat)) : Int) = (a : Int) + (r : Int) by omega, show (((a + r * 2 : Nat)) : Int) = (a : Int) + (r : Int) * 2 by omega, show (((a + r * 3 : Nat)) : Int) = (a : Int) + (r : Int) * 3 by omega] at hm
  have HM := Lib.hid hm
  clear hm
  have hd : (b : Int) - (a : Int) = (l : Int) := by omega
  have hq : (l : Int) / 4 = (r : Int) := by omega
  have w1 : IntKind.i64.wrap ((l : Int)) = (l : Int) := by rw [IntKind.wrap_i64]; omega
  have w2 : IntKind.i64.wrap ((r : Int)) = (r : Int) := by rw [IntKind.wrap_i64]; omega
  have w3 : IntKind.i64.wrap ((r : Int) * 2) = (r : Int) * 2 := by rw [IntKind.wrap_i64]; omega
  have w4 : IntKind.i64.wrap ((r : Int) * 3) = (r : Int) * 3 := by rw [IntKind.wrap_i64]; omega
  have w5 : IntKind.i64.wrap ((a : Int) + (r : Int)) = (a : Int) + (r : Int) := by rw [IntKind.wrap_i64]; omega
  have w6 : IntKind.i64.wrap ((a : Int) + (r : Int) * 2) = (a : Int) + (r : Int) * 2 := by rw [IntKind.wrap_i64]; omega
  have w7 : IntKind.i64.wrap ((a : Int) + (r : Int) * 3) = (a : Int) + (r : Int) * 3 := by rw [IntKind.wrap_i64]; omega
  have l8 : (8 : Int) ≤ (l : Int) := by omega
  have l50 : ¬ (50 : Int) ≤ (l : Int) := by omega
  have l51 : (l : Int) < 50 := by omega
  have HLR := Lib.hid (And.intro hl hr)
  have h1 : a + r * 3 < b := by omega
  clear h hn hl hr l50 w2 w3 w4 w5 w6 w7
  unfold cmpV at *
  go_enter Try.func47, Try.ntmps47
  go_wp2_with (go_at_call 59; go_loud (refine HM.out.mono ?_; rintro e w2 ⟨x, s1, rfl, hx, hs1, L1, Q1, B1⟩; have hc := Q1.cell 0; simp only [List.getElem?_toArray, List.getElem?_cons_zero] at hc; have BB := Lib.hid (HBA.out.trans B1); have LL := Lib.hid L1; have hx1 : a ≤ x := (by omega); have hx2 : x < b := (by omega); clear HM HBA L1 Q1 B1))
  all_goals first
    | (exfalso; omega)
    | (go_ret2; exact ⟨x, 1, rfl, hx1, hx2, by decide, LL.out, BB.out⟩)
    | (go_ret2; exact ⟨x, 0, rfl, hx1, hx2, by decide, LL.out, BB.out⟩)
end Cib
