/- The document's products, quotients, powers. -/
import Derived.Test.YtnicfpkadiamaaaFldD
set_option linter.unusedVariables false
set_option linter.unusedSimpArgs false
set_option maxRecDepth 20000
namespace Cib
open Go Go.RowKit Go.Proofs

theorem i64_xor_nat (a b : Nat) (ha : a < 512) (hb : b < 512) : bits .xor .i64 (a : Int) (b : Int) = ((a ^^^ b : Nat) : Int) := by
  have h1 : (BitVec.ofInt 64 (a : Int)).toNat = a := by
    rw [BitVec.ofInt_natCast, BitVec.toNat_ofNat]
    exact Nat.mod_eq_of_lt (by omega)
  have h2 : (BitVec.ofInt 64 (b : Int)).toNat = b := by
    rw [BitVec.ofInt_natCast, BitVec.toNat_ofNat]
    exact Nat.mod_eq_of_lt (by omega)
  have h3 : a ^^^ b < 512 := Nat.xor_lt_two_pow (n := 9) ha hb
  show IntKind.i64.wrap ((BitVec.ofInt 64 (a : Int) ^^^ BitVec.ofInt 64 (b : Int)).toNat : Int) = _
  rw [BitVec.toNat_xor, h1, h2, IntKind.wrap_i64]
  omega
theorem bit_int (b k : Nat) : (((b : Int) / 2 ^ k).tmod 2 == 1) = decide (b / 2 ^ k % 2 = 1) := by
  have h1 : (b : Int) / 2 ^ k = ((b / 2 ^ k : Nat) : Int) := by simp
  rw [h1]
  generalize b / 2 ^ k = m
  rw [Int.tmod_eq_emod_of_nonneg (Int.natCast_nonneg m)]
  by_cases h : m % 2 = 1
  · rw [decide_eq_true h]; simp; omega
  · rw [decide_eq_false h]; simp; omega
theorem refMul3 (a b : Nat) (ha : a < 256) (hb : b < 256) (w : World) :
    Calls Try.prog 38 #[.int .u8 (a : Int), .int .u8 (b : Int)] w fun e w' => e = .returned (.int .u8 (Fld.gmul a b : Nat)) ∧ w = w' := by
  go_enter Try.func38, Try.ntmps38
  go_wp2
  go_loop [5, 6, 7] (fun p x i => ∃ k : Nat, k ≤ 8 ∧ i = .int .i64 k ∧ p = .int .i64 (Fld.gm a b k : Nat) ∧ x = .int .i64 (Fld.xts k a : Nat)) (fun _ _ i => 8 - (intOf i).toNat)
  case atStart => exact ⟨0, Nat.zero_le _, rfl, rfl, rfl⟩
  case round =>
    obtain ⟨k, hk, rfl, rfl, rfl⟩ := hrel
    by_cases hlt : k < 8
    · have hg := Fld.gm_lt (b := b) ha k
      have hx := Fld.xts_lt ha k
      have hbi := bit_int b k
      by_cases hbit : b / 2 ^ k % 2 = 1
      · rw [decide_eq_true hbit] at hbi
        have HG : Hid (Fld.gm a b (k + 1) = Fld.gm a b k ^^^ Fld.xts k a) := if_pos hbit
        have HB := Lib.hid (i64_xor_nat (Fld.gm a b k) (Fld.xts k a) (by omega) (by omega))
        clear hbit
        by_cases hbig : 256 ≤ 2 * Fld.xts k a
        · have HX := Lib.hid (xt_big hx hbig)
          go_wp2
          exact ⟨⟨k + 1, by omega, by go_num, by rw [HB.out, HG.out], int_eq HX.out⟩, by simp [intOf]; omega⟩
        · have HX : Hid (Fld.xts (k + 1) a = 2 * Fld.xts k a) := if_neg hbig
          go_wp2
          exact ⟨⟨k + 1, by omega, by go_num, by rw [HB.out, HG.out], by rw [HX.out]; exact int_eq (by omega)⟩, by simp [intOf]; omega⟩
      · rw [decide_eq_false hbit] at hbi
        have HG : Hid (Fld.gm a b (k + 1) = Fld.gm a b k) := if_neg hbit
        clear hbit
        by_cases hbig : 256 ≤ 2 * Fld.xts k a
        · have HX := Lib.hid (xt_big hx hbig)
          go_wp2
          exact ⟨⟨k + 1, by omega, by go_num, by rw [HG.out], int_eq HX.out⟩, by simp [intOf]; omega⟩
        · have HX : Hid (Fld.xts (k + 1) a = 2 * Fld.xts k a) := if_neg hbig
          go_wp2
          exact ⟨⟨k + 1, by omega, by go_num, by rw [HG.out], by rw [HX.out]; exact int_eq (by omega)⟩, by simp [intOf]; omega⟩
    · have H8 := Lib.hid (Fld.gm_lt (b := b) ha k)
      go_wp2
      go_ret
      obtain rfl : k = 8 := by omega
      have h8 := H8.out
      exact ⟨ret_eq (int_eq (by show (Fld.gm a b 8 : Int) % 256 = (Fld.gm a b 8 : Int); omega)), rfl⟩
theorem refDiv3 (a b : Nat) (ha : a < 256) (hb : b < 256) (w : World) :
    Calls Try.prog 36 #[.int .u8 (a : Int), .int .u8 (b : Int)] w fun e w' => e = .returned (pairV (divA a b)) ∧ w = w' := by
  by_cases h0 : b = 0
  · subst h0
    have HV : Hid (divA a 0 = (0, 2)) := if_pos rfl
    go_enter Try.func36, Try.ntmps36
    go_wp2
    go_ret2
    exact ⟨by rw [HV.out]; rfl, rfl⟩
  · have h0' : ((b : Int) == 0) = false := by simp; omega
    have HV : Hid (divA a b = (Fld.gdiv a b, 0)) := if_neg h0
    have HD : Hid (∀ c, c < 256 → Fld.gmul c b = a → c = Fld.gdiv a b) := fun c hc h => Fld.div_unique ha hb hc h0 h
    have HE : Hid (Fld.gdiv a b < 256 ∧ Fld.gmul (Fld.gdiv a b) b = a) := ⟨Fld.gdiv_lt a b, Fld.div_mul ha hb h0⟩
    clear h0
    go_enter Try.func36, Try.ntmps36
    go_wp2
    go_loop [6] (fun i => ∃ k : Nat, k ≤ 256 ∧ i = .int .i64 k ∧ Hid (∀ c, c < k → Fld.gmul c b ≠ a)) (fun i => 256 - (intOf i).toNat)
    case atStart => exact ⟨0, Nat.zero_le _, rfl, fun c hc => absurd hc (Nat.not_lt_zero _)⟩
    case round =>
      obtain ⟨k, hk, rfl, HS⟩ := hrel
      by_cases hlt : k < 256
      · have hkk : (k : Int) % 256 = (k : Int) := by omega
        by_cases hf : Fld.gmul k b = a
        · have HF := Lib.hid hf
          have hq : ((Fld.gmul k b : Int) == (a : Int)) = true := by simp; omega
          clear hf
          go_wp2_with (go_at_call 38; refine (refMul3 k b hlt hb _).mono ?_; rintro e w' ⟨rfl, rfl⟩)
          go_ret2
          exact ⟨by rw [HV.out, ← HD.out k hlt HF.out]; rfl, rfl⟩
        · have HF := Lib.hid hf
          have hq : ((Fld.gmul k b : Int) == (a : Int)) = false := by simp; omega
          clear hf
          go_wp2_with (go_at_call 38; refine (refMul3 k b hlt hb _).mono ?_; rintro e w' ⟨rfl, rfl⟩)
          refine ⟨⟨k + 1, by omega, by go_num, fun c hc hx => ?_⟩, by simp [intOf]; omega⟩
          by_cases hck : c = k
          · subst hck; exact HF.out hx
          · exact HS.out c (by omega) hx
      · exact absurd HE.out.2 (HS.out _ (by have := HE.out.1; omega))
end Cib
