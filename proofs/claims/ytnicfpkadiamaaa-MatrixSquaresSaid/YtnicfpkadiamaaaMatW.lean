/- Matrices: what within, Right, row, nobody, At do. -/
import Derived.Test.YtnicfpkadiamaaaFldK
import Derived.Test.YtnicfpkadiamaaaReg
set_option linter.unusedVariables false
set_option linter.unusedSimpArgs false
set_option maxRecDepth 20000
namespace Cib
open Go Go.RowKit Go.Proofs
/-- A matrix as a value. -/
def mv (r c : Int) (A : Option Addr) (n k : Nat) : Array Value := #[.int .i64 r, .int .i64 c, .slice A n k]
/-- A number from 1 to 255? -/
def wi (n : Int) : Bool := decide (1 ≤ n ∧ n ≤ 255)
/-- A right matrix? -/
def mr (r c : Int) (n : Nat) : Bool := wi r && wi c && decide ((n : Int) = r * c)
theorem wi_true {n : Int} : wi n = true ↔ 1 ≤ n ∧ n ≤ 255 := by simp [wi]
theorem mr_true {r c : Int} {n : Nat} : mr r c n = true ↔ (1 ≤ r ∧ r ≤ 255) ∧ (1 ≤ c ∧ c ≤ 255) ∧ (n : Int) = r * c := by simp [mr, wi, and_assoc]
theorem matWithin (n : Int) (w : World) : Calls Try.prog 41 #[.int .i64 n] w fun e w' => e = .returned (.bool (wi n)) ∧ w' = w := by
  by_cases h1 : 1 ≤ n
  · by_cases h2 : n ≤ 255
    · rw [show wi n = true from wi_true.2 ⟨h1, h2⟩]
      go_enter Try.func41, Try.ntmps41
      go_wp2
      go_ret
      exact ⟨rfl, rfl⟩
    · rw [show wi n = false from by simp [wi]; omega]
      go_enter Try.func41, Try.ntmps41
      go_wp2
      go_ret
      exact ⟨rfl, rfl⟩
  · rw [show wi n = false from by simp [wi]; omega]
    go_enter Try.func41, Try.ntmps41
    go_wp2
    go_ret
    exact ⟨rfl, rfl⟩
set_option maxHeartbeats 1600000 in
theorem matRight (r c : Int) (A : Option Addr) (n k : Nat) (hn : n ≤ 140737488355328) (w : World) : Calls Try.prog 23 #[.agg (mv r c A n k)] w fun e w' => e = .returned (.bool (mr r c n)) ∧ Below w.heap.size w w' := by
  have hal : Below w.heap.size w (w.alloc (.cells (mv r c A n k) 24)) := (Below.refl _ _).alloc (Nat.le_refl _) _
  have HAL := Lib.hid hal
  clear hal
  unfold mv at *
  obtain ⟨x, hx⟩ : ∃ x, Hid (wi r = x) := ⟨_, rfl⟩
  obtain ⟨y, hy⟩ : ∃ y, Hid (wi c = y) := ⟨_, rfl⟩
  unfold mr
  rw [hx.out, hy.out]
  have H1 := Lib.hid (fun w => matWithin r w)
  have H2 := Lib.hid (fun w => matWithin c w)
  rw [hx.out] at H1
  rw [hy.out] at H2
  rcases x with _ | _
  · go_enter Try.func23, Try.ntmps23
    go_wp2_with (go_at_call 41; refine (H1.out _).mono ?_; rintro e w' ⟨rfl, rfl⟩)
    go_ret
    exact ⟨rfl, HAL.out⟩
  · rcases y with _ | _
    · go_enter Try.func23, Try.ntmps23
      go_wp2_with (go_at_call 41; first | (refine (H1.out _).mono ?_; rintro e w' ⟨rfl, rfl⟩) | (refine (H2.out _).mono ?_; rintro e w' ⟨rfl, rfl⟩))
      go_ret
      exact ⟨rfl, HAL.out⟩
    · obtain ⟨hr1, hr2⟩ := wi_true.1 hx.out
      obtain ⟨hc1, hc2⟩ := wi_true.1 hy.out
      have hm : r * c ≤ 255 * 255 := Int.mul_le_mul hr2 hc2 (by omega) (by omega)
      have hm0 : 0 ≤ r * c := Int.mul_nonneg (by omega) (by omega)
      have hw : IntKind.i64.wrap (r * c) = r * c := by rw [IntKind.wrap_i64]; omega
      have HW : Hid (wrap64 (r * c) = r * c) := (by show wrap64 (r * c) = r * c; unfold wrap64; omega)
      obtain ⟨z, hz⟩ : ∃ z, Hid (decide ((n : Int) = r * c) = z) := ⟨_, rfl⟩
      have hzz : ((n : Int) == r * c) = z := by rw [← hz.out]; rfl
      rw [hz.out]
      clear hw hm hm0
      go_enter Try.func23, Try.ntmps23
      go_wp2_with (go_at_call 41; first | (refine (H1.out _).mono ?_; rintro e w' ⟨rfl, rfl⟩) | (refine (H2.out _).mono ?_; rintro e w' ⟨rfl, rfl⟩))
      go_ret
      rw [HW.out]
      exact ⟨by simp [hzz], HAL.out⟩
theorem matRow (A : Option Addr) (n k : Nat) (c i : Nat) (hc : c ≤ 255) (hi : (i + 1) * c ≤ n) (hi2 : i ≤ 255) (hn : n ≤ k) (w : World) : Calls Try.prog 39 #[.slice A n k, .int .i64 (c : Int), .int .i64 (i : Int)] w fun e w' => e = .returned (.slice (cut A ((i + 1) * c) (i * c)) c c) ∧ w' = w := by
  have h1 : i * c ≤ 255 * 255 := Nat.mul_le_mul hi2 hc
  have h2 : (i + 1) * c = i * c + c := Nat.succ_mul i c
  have hm1 : (i : Int) * (c : Int) = ((i * c : Nat) : Int) := by simp
  have hm2 : ((i : Int) + 1) * (c : Int) = ((i * c + c : Nat) : Int) := by rw [← h2]; simp
  rw [h2] at hi ⊢
  have hsl := fun W : World => run_cut_three (P := Try.prog) 22 5 Try.underlying22 sizeByte A n k (i * c) (i * c + c) (i * c + c) .i64 .i64 .i64 (by omega) (by omega) (by omega) W
  rw [show i * c + c - i * c = c from by omega] at hsl
  generalize i * c = p at *
  simp only [Int.natCast_add] at hsl
  go_enter Try.func39, Try.ntmps39
  go_wp2
  go_ret
  exact ⟨rfl, rfl⟩
theorem matNobody (g : Nat) (w : World) (h : Fld w g) : Calls Try.prog 29 #[.pointer (some ⟨g, 0, none⟩)] w fun e w' => e = .returned (.bool false) ∧ Aft g w w' := by
  go_enter Try.func29, Try.ntmps29
  go_wp2_with (go_at_call 46; refine (fldDivA g 1 1 (by decide) (by decide) w h).mono ?_; rintro e w' ⟨rfl, ha⟩; unfold pairV divA)
  go_ret
  exact ⟨rfl, ha⟩
end Cib
