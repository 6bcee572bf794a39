/- The field's own functions: contracts. -/
import Derived.Test.YtnicfpkadiamaaaFldC
set_option linter.unusedVariables false
set_option linter.unusedSimpArgs false
namespace Cib
open Go Go.RowKit Go.Proofs

theorem wpList_buildAs {P : Program} {ops : Array Oper} {rest : List Oper} {o : Oper} {a : Act} {w : World} {Q : Exit → Act → World → Prop} (hg : o.guard = none) (t : TypeId) (parts : Array (Nat × Operand)) (ho : o.op = .build t parts)
    (cells : Array Value) {l : List (Nat × Value)} (hb : P.built t l = some cells) (hl : (parts.map fun (i, x) => (i, a.eval x)).toList = l)
    (h : wpList P ops Q rest (a.put o.dst (.agg cells)) w) : wpList P ops Q (o :: rest) a w :=
  wpList_build hg t parts ho (by rw [hl, hb]; rfl) (by rw [hl, hb]; exact h)
theorem fldBuilt : Try.prog.built 67 [(1, .bool true)] = some (fcells 0 0 0) := by kernel_rfl
theorem fldNew (w : World) : Calls Try.prog 11 #[] w fun e w' => e = .returned (.pointer (some ⟨w.heap.size, 0, none⟩)) ∧ w' = w.alloc (.cells (fcells 0 0 0) 67) := by
  have hb := fldBuilt
  generalize fcells 0 0 0 = C at hb ⊢
  go_enter Try.func11, Try.ntmps11
  go_wp2_with (refine wpList_buildAs rfl 67 _ rfl C hb (by simp [go_sem]) ?_)
  go_ret
  exact ⟨rfl, rfl⟩
end Cib
