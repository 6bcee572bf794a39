/- What the functions of package crc compute: contracts of each function. -/
import Derived.Test.YtmabmhiombnngaaBase
import Derived.Test.YtmabmhiombnngaaCrcP
set_option linter.unusedVariables false
set_option linter.unusedSimpArgs false
namespace Go.Proofs.Ytmabmhiombnngaa
open Go.RowKit Cib

theorem u32_xor_bv (a b : BitVec 32) : bits .xor .u32 (a.toNat : Int) (b.toNat : Int) = ((a ^^^ b).toNat : Int) := by
  rw [u32_xor_nat _ _ a.isLt b.isLt, BitVec.toNat_xor]
theorem u32_pick (r m c : BitVec 32) (k : Nat) :
    bits .xor .u32 (r.toNat : Int) (bits .and .u32 (m.toNat : Int) (-bits .and .u32 ((c.toNat : Int) / 2 ^ k) 1 % 4294967296)) = ((r ^^^ (m &&& -((c >>> k) &&& 1#32))).toNat : Int) := by
  have h4 : (c.toNat : Int) / (2 : Int) ^ k = ((c >>> k).toNat : Int) := by
    rw [BitVec.toNat_ushiftRight, Nat.shiftRight_eq_div_pow]
    simp
  have h5 : bits .and .u32 ((c >>> k).toNat : Int) 1 = (((c >>> k) &&& 1#32).toNat : Int) := by
    rw [BitVec.toNat_and]
    exact u32_and_nat _ 1 (BitVec.isLt _) (by decide)
  have h2 : (-(((c >>> k) &&& 1#32).toNat : Int)) % 4294967296 = ((-((c >>> k) &&& 1#32)).toNat : Int) := by
    rw [BitVec.toNat_neg]
    have := ((c >>> k) &&& 1#32).isLt
    omega
  rw [h4, h5, h2, u32_and_nat _ _ (BitVec.isLt _) (BitVec.isLt _), ← BitVec.toNat_and, u32_xor_nat _ _ (BitVec.isLt _) (BitVec.isLt _), ← BitVec.toNat_xor]

theorem crcStep (c : BitVec 32) (w : World) :
    Calls Try.prog 61 #[.int .u32 (c.toNat : Int)] w fun e w' => e = .returned (.int .u32 ((Crc.step c).toNat : Int)) ∧ w = w' := by
  have hc := c.isLt
  have h1 : (c &&& 1#32).toNat = c.toNat &&& 1 := by simp
  have h3 : (-(c &&& 1#32)).toNat < 4294967296 := BitVec.isLt _
  have h2 : (-((c.toNat &&& 1 : Nat) : Int)) % 4294967296 = ((-(c &&& 1#32)).toNat : Int) := by
    rw [BitVec.toNat_neg, h1]
    have := (c &&& 1#32).isLt
    omega
  have h4 : (c.toNat : Int) / (2 : Int) = ((c >>> 1).toNat : Int) := by simp [Nat.shiftRight_succ]
  have h5 : bits .and .u32 (c.toNat : Int) 1 = ((c.toNat &&& 1 : Nat) : Int) := u32_and_nat c.toNat 1 hc (by decide)
  have h6 : bits .and .u32 2197175160 ((-(c &&& 1#32)).toNat : Int) = ((0x82f63b78#32 &&& -(c &&& 1#32)).toNat : Int) := by
    rw [BitVec.toNat_and]
    exact u32_and_nat 2197175160 _ (by decide) h3
  have h7 : bits .xor .u32 ((c >>> 1).toNat : Int) ((0x82f63b78#32 &&& -(c &&& 1#32)).toNat : Int) = ((Crc.step c).toNat : Int) := by
    rw [u32_xor_nat _ _ (BitVec.isLt _) (BitVec.isLt _), ← BitVec.toNat_xor]
    rfl
  have hv : bits .xor .u32 ((c.toNat : Int) / 2) (bits .and .u32 2197175160 (-bits .and .u32 (c.toNat : Int) 1 % 4294967296)) = ((Crc.step c).toNat : Int) := by
    rw [h5, h2, h6, h4, h7]
  clear h1 h2 h3 h4 h5 h6 h7
  have HV := Lib.hid hv
  clear hv
  go_enter Try.func61, Try.ntmps61
  go_wp2
  go_ret
  exact ⟨ret_eq (int_eq HV.out), rfl⟩

theorem crcEat (c : BitVec 32) (b : UInt8) (w : World) :
    Calls Try.prog 57 #[.int .u32 (c.toNat : Int), .int .u8 (b.toNat : Int)] w fun e w' => e = .returned (.int .u32 ((Crc.eat c b).toNat : Int)) ∧ w = w' := by
  have hc := c.isLt
  have hb := b.toNat_lt
  have hx : bits .xor .u32 (c.toNat : Int) (b.toNat : Int) = ((c ^^^ BitVec.ofNat 32 b.toNat).toNat : Int) := by
    rw [u32_xor_nat _ _ hc (by omega), BitVec.toNat_xor, BitVec.toNat_ofNat, Nat.mod_eq_of_lt (by omega)]
  have HX := Lib.hid hx
  clear hx
  go_enter Try.func57, Try.ntmps57
  go_wp2
  go_loop [0, 9] (fun r i => ∃ k : Nat, k ≤ 8 ∧ i = .int .i64 k ∧ r = .int .u32 ((Crc.steps k (c ^^^ BitVec.ofNat 32 b.toNat)).toNat : Int)) (fun _ i => 8 - (intOf i).toNat)
  case atStart => exact ⟨0, Nat.zero_le _, rfl, int_eq HX.out⟩
  case round =>
    obtain ⟨k, hk, rfl, rfl⟩ := hrel
    by_cases hlt : k < 8
    · go_wp2_with (go_at_call 61; refine (crcStep _ _).mono ?_; rintro e w' ⟨rfl, rfl⟩)
      go_round
      case rel => exact ⟨k + 1, by omega, by go_num, rfl⟩
      case measure => simp [intOf]; omega
    · go_wp2
      go_ret
      obtain rfl : k = 8 := by omega
      exact ⟨rfl, rfl⟩

theorem crcThrough (c : BitVec 32) (A : Option Addr) (cap : Nat) (bs : List UInt8) (w : World) (B : Nat) (h : Rd w B A (bs.map bv)) (hl : bs.length ≤ maxLen) {len : Nat} (hn : bs.length = len) :
    Calls Try.prog 48 #[.int .u32 (c.toNat : Int), .slice A len cap] w fun e w' => e = .returned (.int .u32 ((Crc.through c bs).toNat : Int)) ∧ w = w' := by
  subst hn
  unfold maxLen at hl
  go_enter Try.func48, Try.ntmps48
  go_wp2
  go_loop [0, 6, 9] (fun r _ i => ∃ k : Nat, k ≤ bs.length ∧ i = .int .i64 k ∧ r = .int .u32 ((Crc.through c (bs.take k)).toNat : Int)) (fun _ _ i => bs.length - (intOf i).toNat)
  case atStart => exact ⟨0, Nat.zero_le _, rfl, rfl⟩
  case round =>
    obtain ⟨k, hk, rfl, rfl⟩ := hrel
    by_cases hlt : k < bs.length
    · obtain ⟨ad, rfl, _, hc⟩ := h.byte hlt
      have HS := Lib.hid (Crc.through_snoc c bs k hlt)
      go_wp2_with (go_at_call 57; refine (crcEat _ _ _).mono ?_; rintro e w' ⟨rfl, rfl⟩)
      go_round
      case rel => exact ⟨k + 1, by omega, by go_num, nat_eq (congrArg _ HS.out.symm)⟩
      case measure => simp [intOf]; omega
    · go_wp2
      go_ret
      exact ⟨ret_eq (nat_eq (by rw [List.take_of_length_le (by omega)])), rfl⟩
end Go.Proofs.Ytmabmhiombnngaa
