/- What the reference's readings of layer 1 compute. -/
import Derived.Test.YtmabmhiombnngaaNumR
set_option linter.unusedVariables false
set_option linter.unusedSimpArgs false
set_option maxRecDepth 20000
namespace Go.Proofs.Ytmabmhiombnngaa
open Go.RowKit Cib

theorem leN_drop (ls : List UInt8) (k : Nat) (h : k < ls.length) : Num.leN (ls.drop k) = (ls[k]).toNat + 256 * Num.leN (ls.drop (k + 1)) := by
  rw [List.drop_eq_getElem_cons h, Num.leN]

theorem refGet (A : Option Addr) (cap : Nat) (bs : List UInt8) (at_ width : Int) (w : World) (B : Nat) (h : Rd w B A (bs.map bv)) {len : Nat} (hn : bs.length = len) (hcm : len ≤ maxLen)
    (ha : -9223372036854775808 ≤ at_ ∧ at_ ≤ 9223372036854775807) (hwi : -9223372036854775808 ≤ width ∧ width ≤ 9223372036854775807) :
    Calls Try.prog 32 #[.slice A len cap, .int .i64 at_, .int .i64 width] w fun e w' => e = .returned (getV bs at_ width) ∧ w = w' := by
  subst hn
  obtain ⟨ha0, ha1⟩ := ha
  obtain ⟨hw0, hw1⟩ := hwi
  unfold maxLen at hcm
  by_cases hc : width < 1 ∨ 8 < width ∨ at_ < 0 ∨ (bs.length : Int) < at_
  · have HV : Hid (getP bs at_ width = (0, 2)) := if_pos hc
    by_cases h1 : width < 1
    · clear hc
      go_enter Try.func32, Try.ntmps32
      go_wp2
      go_ret2
      exact ⟨by unfold getV; rw [HV.out]; rfl, rfl⟩
    · by_cases h2 : 8 < width
      · clear hc
        go_enter Try.func32, Try.ntmps32
        go_wp2
        go_ret2
        exact ⟨by unfold getV; rw [HV.out]; rfl, rfl⟩
      · by_cases h3 : at_ < 0
        · clear hc
          go_enter Try.func32, Try.ntmps32
          go_wp2
          go_ret2
          exact ⟨by unfold getV; rw [HV.out]; rfl, rfl⟩
        · have h4 : (bs.length : Int) < at_ := by omega
          clear hc
          go_enter Try.func32, Try.ntmps32
          go_wp2
          go_ret2
          exact ⟨by unfold getV; rw [HV.out]; rfl, rfl⟩
  · obtain ⟨a, rfl⟩ := Int.eq_ofNat_of_zero_le (by omega : 0 ≤ at_)
    obtain ⟨wd, rfl⟩ := Int.eq_ofNat_of_zero_le (by omega : 0 ≤ width)
    have hal : a ≤ bs.length := by omega
    have hw8 : wd ≤ 8 := by omega
    have hw18 : 1 ≤ wd := by omega
    have hd1 : decide (bs.length < a) = false := by simp; omega
    have hd2 : decide ((a : Int) < 0) = false := by simp
    have hd3 : decide ((wd : Int) < 1) = false := by simp; omega
    have hd4 : decide (8 < (wd : Int)) = false := by simp; omega
    by_cases hs : (bs.length : Int) - (a : Int) < (wd : Int)
    · have HV : Hid (getP bs (a : Int) (wd : Int) = (0, 5)) := (if_neg hc).trans (if_pos hs)
      clear hc
      go_enter Try.func32, Try.ntmps32
      go_wp2
      go_ret2
      exact ⟨by unfold getV; rw [HV.out]; rfl, rfl⟩
    · have HV : Hid (getP bs (a : Int) (wd : Int) = (Num.leN ((bs.drop a).take wd), 0)) := (if_neg hc).trans (if_neg hs)
      have hd5 : decide ((bs.length : Int) - (a : Int) < (wd : Int)) = false := by simp; omega
      have hln : ((bs.drop a).take wd).length = wd := by simp; omega
      have hget : ∀ k (h2 : k < ((bs.drop a).take wd).length) (h3 : a + k < bs.length), ((bs.drop a).take wd)[k] = bs[a + k] := fun k h2 h3 => by simp
      have HG := Lib.hid hget
      have HLN := Lib.hid hln
      generalize hls : (bs.drop a).take wd = ls at *
      clear hln hc hget hls
      go_enter Try.func32, Try.ntmps32
      go_wp2
      go_loop [8, 9] (fun v i => ∃ k : Nat, k ≤ wd ∧ i = .int .i64 ((k : Int) - 1) ∧ v = .int .u64 (Num.leN (ls.drop k) : Nat)) (fun _ i => (intOf i + 1).toNat)
      case atStart => exact ⟨wd, Nat.le_refl _, rfl, int_eq (by rw [List.drop_eq_nil_of_le (by rw [HLN.out]; exact Nat.le_refl _)]; rfl)⟩
      case round =>
        obtain ⟨k, hk, rfl, rfl⟩ := hrel
        by_cases hlt : 0 < k
        · obtain ⟨j, rfl⟩ : ∃ j, k = j + 1 := ⟨k - 1, by omega⟩
          have hjl : a + j < bs.length := by omega
          obtain ⟨ad, rfl, _, hc2⟩ := h.byte hjl
          have HT : Hid (Num.leN (ls.drop j) = (bs[a + j]).toNat + 256 * Num.leN (ls.drop (j + 1))) := by
            unfold Hid
            rw [leN_drop ls j (by rw [HLN.out]; omega), HG.out j (by rw [HLN.out]; omega) hjl]
          have hmlt : Num.leN (ls.drop (j + 1)) < 72057594037927936 := by
            have h1 := Num.leN_lt (ls.drop (j + 1))
            rw [List.length_drop, HLN.out] at h1
            exact Nat.lt_of_lt_of_le h1 (Nat.le_trans (Nat.pow_le_pow_right (by decide) (show wd - (j + 1) ≤ 7 by omega)) (by decide))
          generalize bs[a + j] = c at *
          have hcb := c.toNat_lt
          generalize Num.leN (ls.drop (j + 1)) = m at *
          have hj1 : ((j + 1 : Nat) : Int) - 1 = (j : Int) := by omega
          rw [hj1]
          clear hj1
          go_wp2
          go_round
          case rel => exact ⟨j, by omega, rfl, int_eq (by rw [HT.out]; simp; omega)⟩
          case measure => simp [intOf]
        · obtain rfl : k = 0 := by omega
          go_wp2
          go_ret2
          exact ⟨by unfold getV; rw [HV.out]; rfl, rfl⟩

theorem var_sum (k m d : Nat) (hk : k ≤ 9) (hm : m < 128 ^ k) (hd : d < 128) (h9 : k = 9 → d ≤ 1) : m + d * 128 ^ k ≤ 18446744073709551615 := by
  have hx : d * 128 ^ k + 128 ^ k ≤ 18446744073709551616 := by
    rw [← Num.cap_mul hk, ← Nat.succ_mul, Nat.mul_comm]
    refine Nat.mul_le_mul_left _ ?_
    by_cases h : k = 9
    · subst h
      have := h9 rfl
      rw [Num.cap_nine]
      omega
    · have := Num.cap_succ (i := k) (by omega)
      have := Num.cap_pos (k + 1)
      omega
  omega
/-- What the reference's Text answers. -/
def textV (bs : List UInt8) (at_ most : Int) : Value := .tuple #[.string ⟨(Num.part bs at_ most).1.toArray⟩, .int .i64 (Num.part bs at_ most).2.1, .int .i64 ((Num.part bs at_ most).2.2 : Int)]

end Go.Proofs.Ytmabmhiombnngaa
