/- The page's examples of layer 1 come out right, whatever the input. -/
import Derived.Test.YtpjmngmhpckobaaNumS
set_option linter.unusedVariables false
set_option linter.unusedSimpArgs false
set_option maxRecDepth 20000
namespace Go.Proofs.Ytpjmngmhpckobaa
open Go.RowKit Cib
theorem ex1 : varV [172, 2] 0 = .tuple #[.int .u64 300, .int .i64 2, .int .i64 0] := by rfl
theorem ex2 : varV [128, 0] 0 = .tuple #[.int .u64 0, .int .i64 0, .int .i64 3] := by rfl
theorem ex3 : Num.part [2, 97] 0 9 = ([], 0, 5) := by decide
theorem ex4 : Num.put [] 3 258 = [2, 1, 0] := by decide
theorem ex5 : [] ++ Num.vb 300 = [172, 2] := by decide
theorem read (w : World) :
    Calls Try.prog 8 #[] w fun e w' => e = .returned (.bool true) ∧ Below w.heap.size w w' := by
  go_enter Try.func8, Try.ntmps8
  go_wp2_with fail
  refine (numVar _ 2 [172, 2] 0 _ _ (by exact Rd.new _ _ _ _ rfl) rfl (by decide) (by decide) (by decide)).mono ?_
  rintro e w1 ⟨rfl, rfl⟩
  rw [ex1]
  generalize hW1 : w.alloc _ = w1
  have hb1 : Below w.heap.size w w1 := hW1 ▸ (Below.refl _ _).alloc (Nat.le_refl _) _
  clear hW1
  go_wp2_with fail
  refine (numVar _ 2 [128, 0] 0 _ _ (by exact Rd.new _ _ _ _ rfl) rfl (by decide) (by decide) (by decide)).mono ?_
  rintro e w2 ⟨rfl, rfl⟩
  rw [ex2]
  generalize hW1 : w1.alloc _ = w2
  replace hb1 : Below w.heap.size w w2 := hW1 ▸ hb1.alloc hb1.size _
  clear hW1
  go_wp2_with fail
  refine (numText _ 2 [2, 97] 0 9 _ _ (by exact Rd.new _ _ _ _ rfl) rfl (by decide) (by decide) (by decide) (by decide)).mono ?_
  rintro e w3 ⟨rfl, rfl⟩
  rw [ex3]
  generalize hW1 : w2.alloc _ = w3
  replace hb1 : Below w.heap.size w w3 := hW1 ▸ hb1.alloc hb1.size _
  clear hW1
  go_wp2_with fail
  refine (numPut none 0 [] 3 258 _ 0 (Rd.nil _ _ _) rfl (Nat.zero_le _) (by decide) (by decide) (by decide)).mono ?_
  rintro e w4 ⟨A4, n4, c4, rfl, hn4, ho4, hb4⟩
  rw [ex4] at hn4 ho4
  have hs4 := run_str (P := Try.prog) 22 9 5 Try.underlying22 Try.underlying5 Try.underlying9 (Rd.of_own ho4) hn4 c4
  replace hb1 := hb1.via hb4
  clear hn4 hb4 ho4
  go_wp2_with fail
  refine (numPutVar none 0 [] 300 _ 0 (Rd.nil _ _ _) rfl (Nat.zero_le _) (by decide) (by decide)).mono ?_
  rintro e w5 ⟨A5, n5, c5, rfl, hn5, ho5, hb5⟩
  rw [ex5] at hn5 ho5
  have hs5 := run_str (P := Try.prog) 22 9 5 Try.underlying22 Try.underlying5 Try.underlying9 (Rd.of_own ho5) hn5 c5
  replace hb1 := hb1.via hb5
  clear hn5 hb5 ho5
  go_wp2
  go_ret
  exact ⟨rfl, hb1⟩
end Go.Proofs.Ytpjmngmhpckobaa
