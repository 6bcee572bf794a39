/- What the law CrcChanges does. -/
import Derived.Test.YtlfdphiakbnkmaaCrcLaw
import Derived.Test.YtlfdphiakbnkmaaCrcQ
set_option linter.unusedVariables false
set_option linter.unusedSimpArgs false
namespace Go.Proofs.Ytlfdphiakbnkmaa
open Go.RowKit Cib
theorem clamp (a : Int) (n m : Nat) (h : m ≤ n) : ∃ K : Nat, Hid (max 0 (min a ((n : Int) - (m : Int))) = (K : Int)) ∧ K + m ≤ n := by
  refine ⟨(max 0 (min a ((n : Int) - (m : Int)))).toNat, ?_, by omega⟩
  unfold Hid
  omega
theorem u8_xor_bytes (a b : UInt8) : bits .xor .u8 (a.toNat : Int) (b.toNat : Int) = ((a ^^^ b).toNat : Int) := by
  rw [u8_xor_nat _ _ a.toNat_lt b.toNat_lt, UInt8.toNat_xor]
theorem getD_eq {cs : List UInt8} {j : Nat} (h : j < cs.length) : cs.getD j 0 = cs[j] := by simp [List.getD, List.getElem?_eq_getElem h]
theorem lawChanges (A : Option Addr) (cap : Nat) (xs : List UInt8) (at_ : Int) (B : Option Addr) (cap2 : Nat) (ms : List UInt8) (w : World) (h : Rd w w.heap.size A (xs.map bv)) (hl : xs.length ≤ maxLen) (ha : -9223372036854775808 ≤ at_ ∧ at_ ≤ 9223372036854775807) (h' : Rd w w.heap.size B (ms.map bv)) (hl' : ms.length ≤ maxLen) :
    Calls Try.prog 7 #[.slice A xs.length cap, .int .i64 at_, .slice B ms.length cap2] w fun e w' => e = .returned (.bool true) ∧ Below w.heap.size w w' := by
  have hm := hl
  have hm' := hl'
  unfold maxLen at hm hm'
  by_cases hc : xs.length ≤ 3000 ∧ ms.length ≤ xs.length
  · obtain ⟨h1, h2⟩ := hc
    obtain ⟨i0, hi, hz0, hz1, hz2⟩ := info_parts infoByte
    obtain ⟨K, hK, hKm⟩ := clamp at_ xs.length ms.length h2
    obtain ⟨s, hs⟩ : ∃ s, Hid (Crc.more 0#32 xs = s) := ⟨_, rfl⟩
    obtain ⟨s2, hs2⟩ : ∃ s, Hid (Crc.more 0#32 (Crc.chg xs K ms ms.length) = s) := ⟨_, rfl⟩
    have e1 : Hid (s ^^^ Crc.Z (((xs.length : Int) - (ms.length : Int)) - (K : Int)).toNat (Crc.through 0#32 ms) = s2) := by
      rw [← hs2.out, ← hs.out, Crc.chg_sum xs K ms hKm, show (((xs.length : Int) - (ms.length : Int)) - (K : Int)).toNat = xs.length - ms.length - K from by omega]
      exact rfl
    go_enter Try.func7, Try.ntmps7
    go_upto_region 3 with fail
    go_cut [7] (fun k wx => k = .int .i64 (K : Int) ∧ wx = w)
    case first =>
      have hK' := hK.out
      clear hK e1 hs hs2
      go_wp2_with fail
      all_goals (go_meet; exact ⟨int_eq (by omega), rfl⟩)
    case rest =>
      obtain ⟨rfl, rfl⟩ := hcut
      go_wp2_with (at_builtin; refine wpList_app _ rfl (.tmp 29) (.tmp 30) _ rfl wc.heap.size 5 i0 _ 1 Try.underlying22 hi hz0 hz1 hz2 rfl none 0 0 [] rfl (World.ownsRow_nil _ _ _ _) _ A xs.length cap _ rfl (by simp) h one_bytes (by unfold maxLen; omega) (by omega) (Nat.le_refl _) ?_; intro A1 c1 w1 ho1 hg1 hw1; rw [Nat.zero_add] at ho1)
      rw [List.nil_append] at ho1
      clear hg1
      go_loopw [9] (fun i wr => ∃ k : Nat, k ≤ ms.length ∧ i = .int .i64 k ∧ Below wc.heap.size wc wr ∧ wr.ownsRow wc.heap.size 5 1 (.slice A1 xs.length c1) xs.length ((Crc.chg xs K ms k).map bv)) (fun i _ => ms.length - (intOf i).toNat)
      case atStart => exact ⟨0, Nat.zero_le _, rfl, hw1, ho1⟩
      case round =>
        clear hw1 ho1
        obtain ⟨k, hk, rfl, hb, ho⟩ := hrel
        by_cases hlt : k < ms.length
        · obtain ⟨g, rfl, hg⟩ := own_at ho (by omega)
          obtain ⟨ad, rfl, _, hc2⟩ := (h'.below hb).byte hlt
          obtain ⟨hc1, hf1, hset⟩ := own_byte ho (j := K + k) (by rw [Crc.chg_length]; omega)
          have hval := u8_xor_bytes ((Crc.chg xs K ms k)[K + k]'(by rw [Crc.chg_length]; omega)) ms[k]
          have hnext : Hid (Crc.chg xs K ms (k + 1) = (Crc.chg xs K ms k).set (K + k) ((Crc.chg xs K ms k)[K + k]'(by rw [Crc.chg_length]; omega) ^^^ ms[k])) := by
            unfold Hid
            rw [Crc.chg, getD_eq (by rw [Crc.chg_length]; omega), getD_eq hlt]
          have HS := Lib.hid hset
          clear hset
          generalize (Crc.chg xs K ms k)[K + k]'(by rw [Crc.chg_length]; omega) = x at *
          generalize ms[k] = y at *
          obtain ⟨z, hz⟩ : ∃ z, Hid (x ^^^ y = z) := ⟨_, rfl⟩
          rw [hz.out] at hval hnext
          go_wp2
          go_region
          go_wp2
          exact ⟨⟨k + 1, by omega, by go_num, (hb.setCell hg _).drew, by rw [hnext.out]; exact HS.out z 0⟩, by simp [intOf]; omega⟩
        · obtain rfl : k = ms.length := by omega
          have hr2 := Rd.of_own ho
          have hlen : (Crc.chg xs K ms ms.length).length = xs.length := Crc.chg_length _ _ _ _
          have HL := Lib.hid hlen
          clear hlen
          go_wp2_with fail
          refine (crcSum A1 c1 (Crc.chg xs K ms ms.length) _ _ hr2 (by rw [HL.out]; unfold maxLen; omega) HL.out).mono ?_
          rintro e w3 ⟨rfl, rfl⟩
          rw [hs2.out]
          go_wp2_with fail
          refine (crcSum A cap xs _ _ (h.below hb) hl rfl).mono ?_
          rintro e w3 ⟨rfl, rfl⟩
          rw [hs.out]
          go_wp2_with fail
          refine (crcTurned s B cap2 ms _ _ _ (h'.below hb) hl' rfl (by omega)).mono ?_
          rintro e w3 ⟨rfl, hw3⟩
          rw [e1.out]
          go_wp2_with fail
          refine (summed _).mono ?_
          rintro e w7 ⟨rfl, hw7⟩
          go_wp2_with fail
          go_ret
          exact ⟨rfl, (hb.via hw3).via hw7⟩
  · by_cases h1 : 3000 < xs.length
    · go_enter Try.func7, Try.ntmps7
      go_wp2_with fail
      refine (summed _).mono ?_
      rintro e w7 ⟨rfl, hw7⟩
      go_wp2_with fail
      go_ret
      exact ⟨rfl, hw7⟩
    · have h2 : xs.length < ms.length := by omega
      clear hc
      go_enter Try.func7, Try.ntmps7
      go_wp2_with fail
      refine (summed _).mono ?_
      rintro e w7 ⟨rfl, hw7⟩
      go_wp2_with fail
      go_ret
      exact ⟨rfl, hw7⟩
end Go.Proofs.Ytlfdphiakbnkmaa
