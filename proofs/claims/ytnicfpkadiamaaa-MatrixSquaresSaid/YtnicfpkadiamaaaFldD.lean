/- Quotients and powers by the field's tables. -/
import Derived.Test.YtnicfpkadiamaaaFldT
set_option linter.unusedVariables false
set_option linter.unusedSimpArgs false
set_option maxRecDepth 20000
namespace Cib
open Go Go.RowKit Go.Proofs

/-- What a quotient answers. -/
def divA (a b : Nat) : Nat × Int := if b = 0 then (0, 2) else (Fld.gdiv a b, 0)
/-- What a power answers. -/
def powA (a : Nat) (n : Int) : Nat × Int := if a = 0 then (if n < 0 then (0, 2) else if n = 0 then (1, 0) else (0, 0)) else (Fld.gpow a (n % 255).toNat, 0)
def pairV (r : Nat × Int) : Value := .tuple #[.int .u8 (r.1 : Int), .int .i64 r.2]
theorem fldDiv (g a b : Nat) (ha : a < 256) (hb : b < 256) (w : World) (h : Fld w g) :
    Calls Try.prog 46 #[.pointer (some ⟨g, 0, none⟩), .int .u8 (a : Int), .int .u8 (b : Int)] w fun e w' => e = .returned (pairV (divA a b)) ∧ ∃ n, w' = (w.setRow g (fcells 1 0 255)).drewN n := by
  have HR := Lib.hid (fldReady g w h)
  have HF : ∀ n, Hid (Full ((w.setRow g (fcells 1 0 255)).drewN n) g) := fun n => by
    rcases h with h | h <;> exact (h.row _).drewN n
  clear h
  generalize fcells 1 0 255 = C at HR HF ⊢
  by_cases h0 : b = 0
  · subst h0
    have HV : Hid (divA a 0 = (0, 2)) := if_pos rfl
    go_enter Try.func46, Try.ntmps46
    go_wp2_with (go_at_call 49; refine HR.out.mono ?_; rintro e w' ⟨rfl, n, rfl⟩)
    go_ret2
    exact ⟨by rw [HV.out]; rfl, n, rfl⟩
  · have h0' : ((b : Int) == 0) = false := by simp; omega
    have HV : Hid (divA a b = (Fld.gdiv a b, 0)) := if_neg h0
    by_cases h1 : a = 0
    · subst h1
      have HW : Hid (Fld.gdiv 0 b = 0) := if_pos rfl
      clear h0
      go_enter Try.func46, Try.ntmps46
      go_wp2_with (go_at_call 49; refine HR.out.mono ?_; rintro e w' ⟨rfl, n, rfl⟩)
      go_ret2
      exact ⟨by rw [HV.out, HW.out]; rfl, n, rfl⟩
    · have h1' : ((a : Int) == 0) = false := by simp; omega
      have HW : Hid (Fld.gdiv a b = Fld.pw (Fld.lg 255 a + 255 - Fld.lg 255 b)) := if_neg h1
      have hla := Fld.log_lt a
      have hlb := Fld.log_lt b
      clear h0 h1
      obtain ⟨j, hj, hj'⟩ : ∃ j : Nat, Hid (Fld.lg 255 a + 255 - Fld.lg 255 b = j) ∧ (Fld.lg 255 a : Int) - (Fld.lg 255 b : Int) + 255 = (j : Int) := ⟨_, rfl, by omega⟩
      have hjl : j < 510 := by have := hj.out; omega
      go_enter Try.func46, Try.ntmps46
      go_wp2_with (go_at_call 49; refine HR.out.mono ?_; rintro e w' ⟨rfl, n, rfl⟩)
      have hF := (HF n).out
      have hN : Hid (((w.setRow g C).drewN n).drew = (w.setRow g C).drewN (n + 1)) := rfl
      generalize (w.setRow g C).drewN n = wx at hF hN ⊢
      have hca := hF.log ha
      have hcb := hF.log hb
      have hce := hF.exp hjl
      go_region
      all_goals go_wp2
      all_goals go_ret2
      exact ⟨by rw [HV.out, HW.out, hj.out]; rfl, n + 1, hN.out⟩

theorem tmod_neg {n : Int} (h : n.tmod 255 < 0) : n.tmod 255 + 255 = ((n % 255).toNat : Int) := by
  have hp : ¬ 0 ≤ n := fun hn => by
    rw [Int.tmod_eq_emod_of_nonneg hn] at h
    omega
  have h2 : n.tmod 255 = -((-n) % 255) := by
    have h3 : (-(-n)).tmod 255 = -((-n).tmod 255) := Int.neg_tmod (-n) 255
    rw [Int.neg_neg, Int.tmod_eq_emod_of_nonneg (a := -n) (b := 255) (by omega)] at h3
    exact h3
  rw [h2] at h ⊢
  omega
theorem tmod_pos {n : Int} (h : ¬ n.tmod 255 < 0) : n.tmod 255 = ((n % 255).toNat : Int) := by
  by_cases hn : 0 ≤ n
  · rw [Int.tmod_eq_emod_of_nonneg hn]
    omega
  · have h2 : n.tmod 255 = -((-n) % 255) := by
      have h3 : (-(-n)).tmod 255 = -((-n).tmod 255) := Int.neg_tmod (-n) 255
      rw [Int.neg_neg, Int.tmod_eq_emod_of_nonneg (a := -n) (b := 255) (by omega)] at h3
      exact h3
    rw [h2] at h ⊢
    omega
end Cib
