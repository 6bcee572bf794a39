/- What the exported functions of package crc compute. -/
import Derived.Test.YtlfdphiakbnkmaaCrcF
set_option linter.unusedVariables false
set_option linter.unusedSimpArgs false
namespace Go.Proofs.Ytlfdphiakbnkmaa
open Go.RowKit Cib

theorem u32_not (c : BitVec 32) : bits .xor .u32 IntKind.u32.max (c.toNat : Int) = ((~~~ c).toNat : Int) := by
  have h : IntKind.u32.max = ((4294967295 : Nat) : Int) := by decide
  rw [h, u32_xor_nat _ _ (by decide) c.isLt, ← BitVec.allOnes_xor, BitVec.toNat_xor]
  rfl
theorem u32_unsigned : IntKind.u32.signed = false := rfl

theorem u32_not_ex (c : BitVec 32) : ∃ d : BitVec 32, Hid (d = ~~~ c) ∧ bits .xor .u32 IntKind.u32.max (c.toNat : Int) = (d.toNat : Int) := ⟨_, rfl, u32_not c⟩
theorem u32_xor_ex (a b : BitVec 32) : ∃ d : BitVec 32, Hid (d = a ^^^ b) ∧ bits .xor .u32 (a.toNat : Int) (b.toNat : Int) = (d.toNat : Int) := ⟨_, rfl, u32_xor_bv a b⟩

theorem crcMore (c : BitVec 32) (A : Option Addr) (cap : Nat) (bs : List UInt8) (w : World) (B : Nat) (h : Rd w B A (bs.map bv)) (hl : bs.length ≤ maxLen) {len : Nat} (hn : bs.length = len) :
    Calls Try.prog 12 #[.int .u32 (c.toNat : Int), .slice A len cap] w fun e w' => e = .returned (.int .u32 ((Crc.more c bs).toNat : Int)) ∧ w = w' := by
  subst hn
  have hs := u32_unsigned
  obtain ⟨c1, e1, h1⟩ := u32_not_ex c
  obtain ⟨c2, e2, h2⟩ := u32_not_ex (Crc.through c1 bs)
  have HE : Hid (Crc.more c bs = c2) := by unfold Crc.more; rw [e2.out, e1.out]; exact rfl
  go_enter Try.func12, Try.ntmps12
  go_wp2_with (go_at_call 20; refine (crcThrough _ A cap bs _ B h hl rfl).mono ?_; rintro e w' ⟨rfl, rfl⟩)
  go_ret
  exact ⟨ret_eq (nat_eq (by rw [HE.out])), rfl⟩

theorem crcSum (A : Option Addr) (cap : Nat) (bs : List UInt8) (w : World) (B : Nat) (h : Rd w B A (bs.map bv)) (hl : bs.length ≤ maxLen) {len : Nat} (hn : bs.length = len) :
    Calls Try.prog 10 #[.slice A len cap] w fun e w' => e = .returned (.int .u32 ((Crc.more 0#32 bs).toNat : Int)) ∧ w = w' := by
  subst hn
  go_enter Try.func10, Try.ntmps10
  go_wp2_with fail
  refine (crcMore 0#32 A cap bs _ B h hl rfl).mono ?_
  rintro e w' ⟨rfl, rfl⟩
  go_wp2_with fail
  go_ret
  exact ⟨rfl, rfl⟩

theorem crcZeros (c : BitVec 32) (n : Int) (w : World) (h1 : n ≤ 9223372036854775807) :
    Calls Try.prog 15 #[.int .u32 (c.toNat : Int), .int .i64 n] w fun e w' => e = .returned (.int .u32 ((~~~ Crc.Z n.toNat (~~~ c)).toNat : Int)) ∧ Below w.heap.size w w' := by
  have hs := u32_unsigned
  obtain ⟨c1, e1, h2⟩ := u32_not_ex c
  obtain ⟨c2, e2, h3⟩ := u32_not_ex (Crc.Z n.toNat c1)
  have HE : Hid (~~~ Crc.Z n.toNat (~~~ c) = c2) := by rw [e2.out, e1.out]; exact rfl
  go_enter Try.func15, Try.ntmps15
  go_wp2_with (go_at_call 23; refine (crcFar _ _ _ h1).mono ?_; rintro e w' ⟨rfl, hb⟩)
  go_ret
  exact ⟨ret_eq (nat_eq (by rw [HE.out])), hb⟩

theorem crcJoin (a b : BitVec 32) (n : Int) (w : World) (h1 : n ≤ 9223372036854775807) :
    Calls Try.prog 14 #[.int .u32 (a.toNat : Int), .int .u32 (b.toNat : Int), .int .i64 n] w fun e w' => e = .returned (.int .u32 ((Crc.Z n.toNat a ^^^ b).toNat : Int)) ∧ Below w.heap.size w w' := by
  obtain ⟨d, HE, h2⟩ := u32_xor_ex (Crc.Z n.toNat a) b
  go_enter Try.func14, Try.ntmps14
  go_wp2_with (go_at_call 23; refine (crcFar _ _ _ h1).mono ?_; rintro e w' ⟨rfl, hb⟩)
  go_ret
  exact ⟨ret_eq (nat_eq (by rw [← HE.out])), hb⟩

theorem crcTurned (s : BitVec 32) (A : Option Addr) (cap : Nat) (bs : List UInt8) (n : Int) (w : World) (B : Nat) (h : Rd w B A (bs.map bv)) (hl : bs.length ≤ maxLen) {len : Nat} (hn : bs.length = len) (h1 : n ≤ 9223372036854775807) :
    Calls Try.prog 16 #[.int .u32 (s.toNat : Int), .slice A len cap, .int .i64 n] w fun e w' => e = .returned (.int .u32 ((s ^^^ Crc.Z n.toNat (Crc.through 0#32 bs)).toNat : Int)) ∧ Below w.heap.size w w' := by
  subst hn
  obtain ⟨d, HE, h2⟩ := u32_xor_ex s (Crc.Z n.toNat (Crc.through 0#32 bs))
  go_enter Try.func16, Try.ntmps16
  go_wp2_with fail
  refine (crcThrough 0#32 A cap bs _ B h hl rfl).mono ?_
  rintro e w' ⟨rfl, rfl⟩
  go_wp2_with (go_at_call 23; refine (crcFar _ _ _ h1).mono ?_; rintro e w' ⟨rfl, hb⟩)
  go_ret
  exact ⟨ret_eq (nat_eq (by rw [← HE.out])), hb⟩
end Go.Proofs.Ytlfdphiakbnkmaa
