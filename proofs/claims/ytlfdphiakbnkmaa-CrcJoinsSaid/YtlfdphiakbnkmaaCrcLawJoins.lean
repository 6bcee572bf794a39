/- What the law CrcJoins does. -/
import Derived.Test.YtlfdphiakbnkmaaCrcLaw
import Derived.Test.YtlfdphiakbnkmaaCrcQ
set_option linter.unusedVariables false
set_option linter.unusedSimpArgs false
namespace Go.Proofs.Ytlfdphiakbnkmaa
open Go.RowKit Cib
theorem lawJoins (A : Option Addr) (cap : Nat) (xs : List UInt8) (B : Option Addr) (cap2 : Nat) (bs : List UInt8) (w : World) (h : Rd w w.heap.size A (xs.map bv)) (hl : xs.length ≤ maxLen) (h' : Rd w w.heap.size B (bs.map bv)) (hl' : bs.length ≤ maxLen) :
    Calls Try.prog 4 #[.slice A xs.length cap, .slice B bs.length cap2] w fun e w' => e = .returned (.bool true) ∧ Below w.heap.size w w' := by
  have hm := hl
  have hm' := hl'
  unfold maxLen at hm hm'
  by_cases hc : xs.length ≤ 3000 ∧ bs.length ≤ 3000
  · obtain ⟨h1, h2⟩ := hc
    obtain ⟨i0, hi, hz0, hz1, hz2⟩ := info_parts infoByte
    obtain ⟨s, hs⟩ : ∃ s, Hid (Crc.more 0#32 (xs ++ bs) = s) := ⟨_, rfl⟩
    obtain ⟨sa, hsa⟩ : ∃ s, Hid (Crc.more 0#32 xs = s) := ⟨_, rfl⟩
    obtain ⟨sb, hsb⟩ : ∃ s, Hid (Crc.more 0#32 bs = s) := ⟨_, rfl⟩
    have e1 : Hid (Crc.Z bs.length sa ^^^ sb = s) := by rw [← hs.out, ← hsa.out, ← hsb.out, Crc.join_law]; exact rfl
    have e2 : Hid (Crc.more sa bs = s) := by rw [← hs.out, ← hsa.out, Crc.more_law]; exact rfl
    have e3 : Hid (Crc.Z (Int.toNat 0) sa ^^^ 0#32 = sa) := by unfold Hid; simp [Crc.Z_none]
    go_enter Try.func4, Try.ntmps4
    go_wp2_with (first
      | (at_builtin; refine wpList_app _ rfl (.tmp 16) (.tmp 17) _ rfl w.heap.size 5 i0 _ 1 Try.underlying22 hi hz0 hz1 hz2 rfl none 0 0 [] rfl (World.ownsRow_nil _ _ _ _) _ A xs.length cap _ rfl (by simp) h one_bytes (by unfold maxLen; omega) (by omega) (Nat.le_refl _) ?_; intro A1 c1 w1 ho1 hg1 hw1; rw [Nat.zero_add] at ho1)
      | (at_builtin; refine wpList_app _ rfl (.tmp 18) (.tmp 19) _ rfl w.heap.size 5 i0 _ 1 Try.underlying22 hi hz0 hz1 hz2 rfl A1 xs.length c1 _ rfl ho1 _ B bs.length cap2 _ rfl (by simp) (h'.below hw1) one_bytes (by unfold maxLen; omega) (by omega) hw1.size ?_; intro A2 c2 w2 ho2 hg2 hw2))
    have hr2 := Rd.of_own ho2
    rw [List.nil_append, ← List.map_append] at hr2
    replace hw1 := hw1.trans hw2
    clear hw2 ho2 hg2 ho1 hg1
    refine (crcSum A2 c2 (xs ++ bs) _ _ hr2 (by unfold maxLen; simp; omega) (by simp)).mono ?_
    rintro e w3 ⟨rfl, rfl⟩
    rw [hs.out]
    go_wp2_with fail
    refine (crcSum A cap xs _ _ (h.below hw1) hl rfl).mono ?_
    rintro e w3 ⟨rfl, rfl⟩
    rw [hsa.out]
    go_wp2_with fail
    refine (crcSum B cap2 bs _ _ (h'.below hw1) hl' rfl).mono ?_
    rintro e w3 ⟨rfl, rfl⟩
    rw [hsb.out]
    go_wp2_with fail
    refine (crcJoin sa sb _ _ (by omega)).mono ?_
    rintro e w3 ⟨rfl, hw3⟩
    rw [Int.toNat_natCast, e1.out]
    replace hw1 := hw1.via hw3
    clear hw3
    go_wp2_with fail
    refine (crcSum A cap xs _ _ (h.below hw1) hl rfl).mono ?_
    rintro e w4 ⟨rfl, rfl⟩
    rw [hsa.out]
    go_wp2_with fail
    refine (crcMore sa B cap2 bs _ _ (h'.below hw1) hl' rfl).mono ?_
    rintro e w4 ⟨rfl, rfl⟩
    rw [e2.out]
    go_wp2_with fail
    refine (crcSum A cap xs _ _ (h.below hw1) hl rfl).mono ?_
    rintro e w4 ⟨rfl, rfl⟩
    rw [hsa.out]
    go_wp2_with fail
    refine (crcJoin sa 0#32 0 _ (by omega)).mono ?_
    rintro e w4 ⟨rfl, hw4⟩
    rw [e3.out]
    replace hw1 := hw1.via hw4
    clear hw4
    go_wp2_with fail
    refine (crcSum A cap xs _ _ (h.below hw1) hl rfl).mono ?_
    rintro e w5 ⟨rfl, rfl⟩
    rw [hsa.out]
    go_wp2_with fail
    refine (summed _).mono ?_
    rintro e w7 ⟨rfl, hw7⟩
    go_wp2_with fail
    go_ret
    exact ⟨rfl, hw1.via hw7⟩
  · by_cases h1 : 3000 < xs.length
    · go_enter Try.func4, Try.ntmps4
      go_wp2_with fail
      refine (summed _).mono ?_
      rintro e w7 ⟨rfl, hw7⟩
      go_wp2_with fail
      go_ret
      exact ⟨rfl, hw7⟩
    · have h2 : 3000 < bs.length := by omega
      clear hc
      go_enter Try.func4, Try.ntmps4
      go_wp2_with fail
      refine (summed _).mono ?_
      rintro e w7 ⟨rfl, hw7⟩
      go_wp2_with fail
      go_ret
      exact ⟨rfl, hw7⟩
end Go.Proofs.Ytlfdphiakbnkmaa
