/- Products, quotients, powers by the field's tables. -/
import Derived.Test.YtnicfpkadiamaaaFldR
set_option linter.unusedVariables false
set_option linter.unusedSimpArgs false
set_option maxRecDepth 20000
namespace Cib
open Go Go.RowKit Go.Proofs

/-- A field's memory with its tables. -/
def Full (w : World) (g : Nat) : Prop := Blk w g 67 (fcells 1 0 255)
section
variable {w : World} {g : Nat}
theorem Full.fld (h : Full w g) : Fld w g := Or.inr h
theorem Full.drewN (h : Full w g) (n : Nat) : Full (w.drewN n) g := h
theorem Full.log (h : Full w g) {v : Nat} (hv : v < 256) : w.cell? ⟨g, 514 + v, none⟩ = some (.int .i64 (Fld.lg 255 v : Int)) := (h.cell _).trans (fcells_log hv)
theorem Full.exp (h : Full w g) {j : Nat} (hj : j < 510) : w.cell? ⟨g, 4 + j, none⟩ = some (.int .u8 (Fld.pw j : Int)) := by
  have := (Blk.cell h (4 + j)).trans (fcells_exp hj)
  rw [expAt_full] at this
  exact this

end

theorem fldTmul (g a b : Nat) (ha : a < 256) (hb : b < 256) (w : World) (h : Full w g) :
    Calls Try.prog 50 #[.pointer (some ⟨g, 4, none⟩), .int .u8 (a : Int), .int .u8 (b : Int)] w fun e w' => e = .returned (.int .u8 (Fld.gmul a b : Nat)) ∧ ∃ n, w' = w.drewN n := by
  by_cases h0 : a = 0
  · subst h0
    rw [Fld.zero_mul]
    go_enter Try.func50, Try.ntmps50
    go_wp2
    go_ret
    exact ⟨rfl, 0, rfl⟩
  · have h0' : ((a : Int) == 0) = false := by simp; omega
    by_cases h1 : b = 0
    · subst h1
      rw [Fld.mul_zero]
      clear h0
      go_enter Try.func50, Try.ntmps50
      go_wp2
      go_ret
      exact ⟨rfl, 0, rfl⟩
    · have h1' : ((b : Int) == 0) = false := by simp; omega
      have HM := Lib.hid (Fld.mul_eq ha hb h0 h1)
      have hla := Fld.log_lt a
      have hlb := Fld.log_lt b
      have hca := h.log ha
      have hcb := h.log hb
      have hce := h.exp (j := Fld.lg 255 a + Fld.lg 255 b) (by omega)
      clear h0 h1 h
      go_enter Try.func50, Try.ntmps50
      go_wp2
      go_region
      all_goals go_wp2
      all_goals go_ret
      exact ⟨ret_eq (nat_eq HM.out.symm), 1, rfl⟩
end Cib
