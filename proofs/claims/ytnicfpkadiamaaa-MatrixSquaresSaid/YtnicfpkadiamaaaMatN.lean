/- Without a field. -/
import Derived.Test.YtnicfpkadiamaaaMatC
set_option linter.unusedVariables false
set_option linter.unusedSimpArgs false
set_option maxRecDepth 40000
namespace Cib
open Go Go.RowKit Go.Proofs
theorem nilReady (w : World) : Calls Try.prog 49 #[.pointer none] w fun e w' => e = .returned (.bool false) ∧ w' = w := by
  go_enter Try.func49, Try.ntmps49
  go_wp2
  go_ret
  exact ⟨rfl, rfl⟩
theorem nilDiv (a b : Nat) (ha : a < 256) (hb : b < 256) (w : World) : Calls Try.prog 46 #[.pointer none, .int .u8 (a : Int), .int .u8 (b : Int)] w fun e w' => e = .returned (.tuple #[.int .u8 0, .int .i64 1]) ∧ w' = w := by
  go_enter Try.func46, Try.ntmps46
  go_wp2_with (go_at_call 49; refine (nilReady w).mono ?_; rintro e w' ⟨rfl, rfl⟩)
  first | go_ret2 | go_ret
  exact ⟨rfl, rfl⟩
theorem nilNobody (w : World) : Calls Try.prog 29 #[.pointer none] w fun e w' => e = .returned (.bool true) ∧ w' = w := by
  go_enter Try.func29, Try.ntmps29
  go_wp2_with (go_at_call 46; refine (nilDiv 1 1 (by decide) (by decide) w).mono ?_; rintro e w' ⟨rfl, rfl⟩)
  go_ret
  exact ⟨rfl, rfl⟩
theorem nilCauchy (A1 A2 : Option Addr) (n1 c1 n2 c2 : Nat) (w : World) : Calls Try.prog 28 #[.pointer none, .slice A1 n1 c1, .slice A2 n2 c2] w fun e w' => e = .returned (.tuple #[.agg (mv 0 0 none 0 0), .int .i64 1]) ∧ Below w.heap.size w w' := by
  go_enter Try.func28, Try.ntmps28
  go_wp2_with fail
  refine (nilNobody _).mono ?_
  rintro e w1 ⟨rfl, rfl⟩
  go_wp2
  refine bodyPost_ret (results_mat2 (g := w.heap.size + 1 + 1 + 1) (te := 24) (cs := mv 0 0 none 0 0) (fr := (0, 0)) rfl _ _ _ rfl ?_ Try.underlying24 rfl matInfo3) rfl ⟨rfl, ?_⟩
  · have := Blk.new (((w.alloc (.cells #[.pointer none] 27)).alloc (.cells #[.slice A1 n1 c1] 22)).alloc (.cells #[.slice A2 n2 c2] 22)) 24 (mv 0 0 none 0 0)
    simpa [mv, Blk] using this
  · exact ((((Below.refl _ _).alloc (Nat.le_refl _) _).alloc (by simp) _).alloc (by simp; omega) _).alloc (by simp; omega) _
end Cib
