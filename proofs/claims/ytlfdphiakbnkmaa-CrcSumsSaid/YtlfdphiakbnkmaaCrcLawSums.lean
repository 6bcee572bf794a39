/- What the law CrcSums does. -/
import Derived.Test.YtlfdphiakbnkmaaCrcLaw
namespace Go.Proofs.Ytlfdphiakbnkmaa
open Go.RowKit Cib
theorem lawSums (A : Option Addr) (cap : Nat) (bs : List UInt8) (s : BitVec 32) (w : World) (h : Rd w w.heap.size A (bs.map bv)) (hl : bs.length ≤ maxLen) :
    Calls Try.prog 3 #[.slice A bs.length cap, .int .u32 (s.toNat : Int)] w fun e w' => e = .returned (.bool true) ∧ Below w.heap.size w w' := by
  have hm := hl
  unfold maxLen at hm
  by_cases hlt : 3000 < bs.length
  · go_enter Try.func3, Try.ntmps3
    go_wp2_with (go_at_call 9; refine (summed _).mono ?_; rintro e w' ⟨rfl, hb⟩)
    go_ret
    exact ⟨rfl, hb⟩
  · go_enter Try.func3, Try.ntmps3
    go_wp2_with (first
      | (go_at_call 10; refine (crcSum A cap bs _ _ h hl).mono ?_; rintro e w' ⟨rfl, rfl⟩)
      | (go_at_call 11; refine (refSum A cap bs _ _ h hl).mono ?_; rintro e w' ⟨rfl, rfl⟩)
      | (go_at_call 12; refine (crcMore s A cap bs _ _ h hl).mono ?_; rintro e w' ⟨rfl, rfl⟩)
      | (go_at_call 13; refine (refMore s A cap bs _ _ h hl).mono ?_; rintro e w' ⟨rfl, rfl⟩)
      | (go_at_call 9; refine (summed _).mono ?_; rintro e w' ⟨rfl, hb⟩))
    go_ret
    exact ⟨rfl, hb⟩
end Go.Proofs.Ytlfdphiakbnkmaa
