/- The page's examples come out right, whatever the input. -/
import Derived.Test.YtlfdphiakbnkmaaCrcS
import Derived.Test.YtlfdphiakbnkmaaCrcR
set_option linter.unusedVariables false
set_option linter.unusedSimpArgs false
namespace Go.Proofs.Ytlfdphiakbnkmaa
open Go.RowKit Cib
def nine : List UInt8 := [49, 50, 51, 52, 53, 54, 55, 56, 57]
theorem nine_sum : Crc.more 0#32 nine = 3808858755#32 := by decide +kernel
theorem nine_join : Crc.Z 4 (Crc.more 0#32 [49, 50, 51, 52, 53]) ^^^ Crc.more 0#32 [54, 55, 56, 57] = 3808858755#32 := by decide +kernel
theorem summed (w : World) :
    Calls Try.prog 9 #[] w fun e w' => e = .returned (.bool true) ∧ Below w.heap.size w w' := by
  have kc := fun (w : World) (C : Array Value) (n c : Nat) => Lib.run_convert_bytes_const (P := Try.prog) w 22 5 C n c Try.underlying22 Try.underlying5
  have h1 := Lib.hid nine_sum
  have h2 := Lib.hid nine_join
  go_enter Try.func9, Try.ntmps9
  go_wp2_with fail
  refine (crcSum _ 9 nine _ _ (by exact Rd.new _ _ _ _ rfl) (by decide) rfl).mono ?_
  rintro e w1 ⟨rfl, rfl⟩
  rw [h1.out]
  generalize hW1 : w.alloc _ = w1
  have hb1 : Below w.heap.size w w1 := hW1 ▸ (Below.refl _ _).alloc (Nat.le_refl _) _
  clear hW1
  go_wp2_with fail
  refine (crcSum _ 5 [49, 50, 51, 52, 53] _ _ (by exact Rd.new _ _ _ _ rfl) (by decide) rfl).mono ?_
  rintro e w2 ⟨rfl, rfl⟩
  generalize hW1 : w1.alloc _ = w2
  replace hb1 : Below w.heap.size w w2 := hW1 ▸ hb1.alloc hb1.size _
  clear hW1
  go_wp2_with fail
  refine (crcSum _ 4 [54, 55, 56, 57] _ _ (by exact Rd.new _ _ _ _ rfl) (by decide) rfl).mono ?_
  rintro e w3 ⟨rfl, rfl⟩
  generalize hW1 : w2.alloc _ = w3
  replace hb1 : Below w.heap.size w w3 := hW1 ▸ hb1.alloc hb1.size _
  clear hW1
  go_wp2_with fail
  refine (crcJoin _ _ 4 _ (by decide)).mono ?_
  rintro e w4 ⟨rfl, hb⟩
  have h3 : Crc.Z (Int.toNat 4) (Crc.more 0#32 [49, 50, 51, 52, 53]) ^^^ Crc.more 0#32 [54, 55, 56, 57] = 3808858755#32 := h2.out
  rw [h3]
  clear h3
  go_wp2
  go_ret
  exact ⟨rfl, hb1.trans (hb.mono hb1.size)⟩
end Go.Proofs.Ytlfdphiakbnkmaa
