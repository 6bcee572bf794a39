/- What the exported functions of package crc compute. -/
import Derived.Test.YtmabmhiombnngaaCrcF
set_option linter.unusedVariables false
set_option linter.unusedSimpArgs false
namespace Go.Proofs.Ytmabmhiombnngaa
open Go.RowKit Cib

theorem u32_not (c : BitVec 32) : bits .xor .u32 IntKind.u32.max (c.toNat : Int) = ((~~~ c).toNat : Int) := by
  have h : IntKind.u32.max = ((4294967295 : Nat) : Int) := by decide
  rw [h, u32_xor_nat _ _ (by decide) c.isLt, ← BitVec.allOnes_xor, BitVec.toNat_xor]
  rfl
theorem u32_unsigned : IntKind.u32.signed = false := rfl

theorem u32_not_ex (c : BitVec 32) : ∃ d : BitVec 32, Hid (d = ~~~ c) ∧ bits .xor .u32 IntKind.u32.max (c.toNat : Int) = (d.toNat : Int) := ⟨_, rfl, u32_not c⟩
theorem u32_xor_ex (a b : BitVec 32) : ∃ d : BitVec 32, Hid (d = a ^^^ b) ∧ bits .xor .u32 (a.toNat : Int) (b.toNat : Int) = (d.toNat : Int) := ⟨_, rfl, u32_xor_bv a b⟩

theorem crcMore (c : BitVec 32) (A : Option Addr) (cap : Nat) (bs : List UInt8) (w : World) (B : Nat) (h : Rd w B A (bs.map bv)) (hl : bs.length ≤ maxLen) {len : Nat} (hn : bs.length = len) :
    Calls Try.prog 36 #[.int .u32 (c.toNat : Int), .slice A len cap] w fun e w' => e = .returned (.int .u32 ((Crc.more c bs).toNat : Int)) ∧ w = w' := by
  subst hn
  have hs := u32_unsigned
  obtain ⟨c1, e1, h1⟩ := u32_not_ex c
  obtain ⟨c2, e2, h2⟩ := u32_not_ex (Crc.through c1 bs)
  have HE : Hid (Crc.more c bs = c2) := by unfold Crc.more; rw [e2.out, e1.out]; exact rfl
  go_enter Try.func36, Try.ntmps36
  go_wp2_with (go_at_call 48; refine (crcThrough _ A cap bs _ B h hl rfl).mono ?_; rintro e w' ⟨rfl, rfl⟩)
  go_ret
  exact ⟨ret_eq (nat_eq (by rw [HE.out])), rfl⟩

end Go.Proofs.Ytmabmhiombnngaa
