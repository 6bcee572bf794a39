/- What the law CrcCarries does. -/
import Derived.Test.YtlfdphiakbnkmaaCrcLaw
set_option linter.unusedVariables false
set_option linter.unusedSimpArgs false
namespace Go.Proofs.Ytlfdphiakbnkmaa
open Go.RowKit Cib
theorem lawCarries (a b : BitVec 32) (n : Int) (A : Option Addr) (cap : Nat) (bs : List UInt8) (w : World) (hn : -9223372036854775808 ≤ n ∧ n ≤ 9223372036854775807) (h : Rd w w.heap.size A (bs.map bv)) (hl : bs.length ≤ maxLen) :
    Calls Try.prog 8 #[.int .u32 (a.toNat : Int), .int .u32 (b.toNat : Int), .int .i64 n, .slice A bs.length cap] w fun e w' => e = .returned (.bool true) ∧ Below w.heap.size w w' := by
  have hm := hl
  unfold maxLen at hm
  by_cases hc : n ≤ 3000 ∧ bs.length ≤ 3000
  · obtain ⟨h1, h2⟩ := hc
    obtain ⟨z1, e1⟩ : ∃ z, Hid (~~~ Crc.Z n.toNat (~~~ a) = z) := ⟨_, rfl⟩
    obtain ⟨z2, e2⟩ : ∃ z, Hid (Crc.Z n.toNat a ^^^ b = z) := ⟨_, rfl⟩
    obtain ⟨z3, e3⟩ : ∃ z, Hid (a ^^^ Crc.Z n.toNat (Crc.through 0#32 bs) = z) := ⟨_, rfl⟩
    go_enter Try.func8, Try.ntmps8
    go_wp2_with fail
    refine (crcZeros a n _ (by omega)).mono ?_
    rintro e w1 ⟨rfl, hw1⟩
    rw [e1.out]
    go_wp2_with fail
    refine (refZeros a n _ h1).mono ?_
    rintro e w2 ⟨rfl, hw2⟩
    rw [e1.out]
    replace hw1 := hw1.via hw2
    go_wp2_with fail
    refine (crcJoin a b n _ (by omega)).mono ?_
    rintro e w3 ⟨rfl, hw3⟩
    rw [e2.out]
    replace hw1 := hw1.via hw3
    go_wp2_with fail
    refine (refJoin a b n _ h1).mono ?_
    rintro e w4 ⟨rfl, hw4⟩
    rw [e2.out]
    replace hw1 := hw1.via hw4
    go_wp2_with fail
    refine (crcTurned a A cap bs n _ _ (h.below hw1) hl (by omega)).mono ?_
    rintro e w5 ⟨rfl, hw5⟩
    rw [e3.out]
    replace hw1 := hw1.via hw5
    go_wp2_with fail
    refine (refTurned3 a A cap bs n _ ((h.below hw1).more hw1.size) hl h1).mono ?_
    rintro e w6 ⟨rfl, hw6⟩
    rw [e3.out]
    replace hw1 := hw1.via hw6
    go_wp2_with fail
    refine (summed _).mono ?_
    rintro e w7 ⟨rfl, hw7⟩
    go_wp2_with fail
    go_ret
    exact ⟨rfl, hw1.via hw7⟩
  · by_cases h1 : 3000 < n
    · go_enter Try.func8, Try.ntmps8
      go_wp2_with fail
      refine (summed _).mono ?_
      rintro e w7 ⟨rfl, hw7⟩
      go_wp2_with fail
      go_ret
      exact ⟨rfl, hw7⟩
    · have h2 : 3000 < bs.length := by omega
      clear hc
      go_enter Try.func8, Try.ntmps8
      go_wp2_with fail
      refine (summed _).mono ?_
      rintro e w7 ⟨rfl, hw7⟩
      go_wp2_with fail
      go_ret
      exact ⟨rfl, hw7⟩
end Go.Proofs.Ytlfdphiakbnkmaa
