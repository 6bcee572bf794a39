/- What the law CrcBursts does. -/
import Derived.Test.YtlfdphiakbnkmaaCrcLaw
import Derived.Test.YtlfdphiakbnkmaaCrcQ
set_option linter.unusedVariables false
set_option linter.unusedSimpArgs false
namespace Go.Proofs.Ytlfdphiakbnkmaa
open Go.RowKit Cib
theorem clamp8 (a : Int) (n : Nat) (h : 5 ≤ n) : ∃ K : Nat, Hid (max 0 (min a (8 * (n : Int) - 32)) = (K : Int)) ∧ K + 32 ≤ 8 * n := by
  refine ⟨(max 0 (min a (8 * (n : Int) - 32))).toNat, ?_, by omega⟩
  unfold Hid
  omega
theorem mask_bit (m : BitVec 32) (k : Nat) : bits .and .u32 ((m.toNat : Int) / 2 ^ k) 1 = ((m.toNat / 2 ^ k % 2 : Nat) : Int) := by
  have h4 : (m.toNat : Int) / (2 : Int) ^ k = ((m.toNat / 2 ^ k : Nat) : Int) := by simp
  have hm := m.isLt
  have : m.toNat / 2 ^ k ≤ m.toNat := Nat.div_le_self _ _
  rw [h4]
  have h5 := u32_and_nat (m.toNat / 2 ^ k) 1 (by omega) (by decide)
  rw [Nat.and_one_is_mod] at h5
  exact h5
theorem getD_eq8 {cs : List UInt8} {j : Nat} (h : j < cs.length) : cs.getD j 0 = cs[j] := by simp [List.getD, List.getElem?_eq_getElem h]
theorem u8_flip (x : UInt8) (r : Nat) (hr : r < 8) : (2 : Int) ^ r % 256 = ((UInt8.ofNat (2 ^ r)).toNat : Int) ∧ bits .xor .u8 (x.toNat : Int) ((UInt8.ofNat (2 ^ r)).toNat : Int) = ((x ^^^ UInt8.ofNat (2 ^ r)).toNat : Int) := by
  refine ⟨?_, by rw [u8_xor_nat _ _ x.toNat_lt (UInt8.toNat_lt _), UInt8.toNat_xor]⟩
  have h : ∀ r : Fin 8, (2 : Int) ^ r.val % 256 = ((UInt8.ofNat (2 ^ r.val)).toNat : Int) := by decide
  exact h ⟨r, hr⟩
theorem lawBursts (A : Option Addr) (cap : Nat) (xs : List UInt8) (at_ : Int) (m : BitVec 32) (w : World) (h : Rd w w.heap.size A (xs.map bv)) (hl : xs.length ≤ maxLen) (ha : -9223372036854775808 ≤ at_ ∧ at_ ≤ 9223372036854775807) :
    Calls Try.prog 5 #[.slice A xs.length cap, .int .i64 at_, .int .u32 (m.toNat : Int)] w fun e w' => e = .returned (.bool true) ∧ Below w.heap.size w w' := by
  have hm := hl
  unfold maxLen at hm
  by_cases hc : 5 ≤ xs.length ∧ xs.length ≤ 3000 ∧ m.toNat ≠ 0
  · obtain ⟨h1, h2, h3⟩ := hc
    obtain ⟨i0, hi, hz0, hz1, hz2⟩ := info_parts infoByte
    obtain ⟨K, hK, hKm⟩ := clamp8 at_ xs.length h1
    have hne := Crc.burst_sum xs K m.toNat m.isLt h3 hKm
    obtain ⟨s, hs⟩ : ∃ s, Hid (Crc.more 0#32 xs = s) := ⟨_, rfl⟩
    obtain ⟨s2, hs2⟩ : ∃ s, Hid (Crc.more 0#32 (Crc.burst xs K m.toNat 32) = s) := ⟨_, rfl⟩
    rw [hs.out, hs2.out] at hne
    have hdiff : ((s2.toNat : Int) != (s.toNat : Int)) = true := by
      rw [bne_iff_ne]
      intro e
      exact hne (BitVec.eq_of_toNat_eq (by omega))
    have h3' : ((m.toNat : Int) == 0) = false := by simp; omega
    clear h3
    go_enter Try.func5, Try.ntmps5
    go_upto_region 3 with fail
    go_cut [7] (fun k wx => k = .int .i64 (K : Int) ∧ wx = w)
    case first =>
      have hK' := hK.out
      clear hK hs hs2 hne hdiff h3'
      go_wp2_with fail
      all_goals (go_meet; exact ⟨int_eq (by omega), rfl⟩)
    case rest =>
      obtain ⟨rfl, rfl⟩ := hcut
      go_wp2_with (at_builtin; refine wpList_app _ rfl (.tmp 30) (.tmp 31) _ rfl wc.heap.size 5 i0 _ 1 Try.underlying22 hi hz0 hz1 hz2 rfl none 0 0 [] rfl (World.ownsRow_nil _ _ _ _) _ A xs.length cap _ rfl (by simp) h one_bytes (by unfold maxLen; omega) (by omega) (Nat.le_refl _) ?_; intro A1 c1 w1 ho1 hg1 hw1; rw [Nat.zero_add] at ho1)
      rw [List.nil_append] at ho1
      clear hg1
      obtain ⟨g, rfl, hg⟩ := own_at ho1 (by omega)
      go_loopw [9] (fun i wr => ∃ k : Nat, k ≤ 32 ∧ i = .int .i64 k ∧ Below wc.heap.size wc wr ∧ wr.ownsRow wc.heap.size 5 1 (.slice (some ⟨g, 0, none⟩) xs.length c1) xs.length ((Crc.burst xs K m.toNat k).map bv)) (fun i _ => 32 - (intOf i).toNat)
      case atStart => exact ⟨0, Nat.zero_le _, rfl, hw1, ho1⟩
      case round =>
        clear hw1 ho1
        obtain ⟨k, hk, rfl, hb, ho⟩ := hrel
        by_cases hlt : k < 32
        · have hmask := mask_bit m k
          by_cases hodd : m.toNat / 2 ^ k % 2 = 1
          · rw [hodd] at hmask
            have hj : (K + k) / 8 < (Crc.burst xs K m.toNat k).length := by rw [Crc.burst_length]; omega
            obtain ⟨hc1, hf1, hset⟩ := own_byte ho hj
            have hnext : Hid (Crc.burst xs K m.toNat (k + 1) = (Crc.burst xs K m.toNat k).set ((K + k) / 8) ((Crc.burst xs K m.toNat k)[(K + k) / 8] ^^^ UInt8.ofNat (2 ^ ((K + k) % 8)))) := by
              unfold Hid
              rw [Crc.burst, if_pos hodd, Crc.flip, getD_eq8 hj]
            have HS := Lib.hid hset
            clear hset hodd
            generalize (Crc.burst xs K m.toNat k)[(K + k) / 8] = x at *
            obtain ⟨hp, hval⟩ := u8_flip x ((K + k) % 8) (Nat.mod_lt _ (by decide))
            generalize UInt8.ofNat (2 ^ ((K + k) % 8)) = y at *
            obtain ⟨z, hz⟩ : ∃ z, Hid (x ^^^ y = z) := ⟨_, rfl⟩
            rw [hz.out] at hval hnext
            clear hj
            go_wp2
            exact ⟨⟨k + 1, by omega, by go_num, hb.setCell hg _, by rw [hnext.out]; exact HS.out z 0⟩, by simp [intOf]; omega⟩
          · have hev : m.toNat / 2 ^ k % 2 = 0 := by omega
            rw [hev] at hmask
            have hnext : Hid (Crc.burst xs K m.toNat (k + 1) = Crc.burst xs K m.toNat k) := by
              unfold Hid
              rw [Crc.burst, if_neg hodd]
            clear hodd hev
            go_wp2
            exact ⟨⟨k + 1, by omega, by go_num, hb, by rw [hnext.out]; exact ho⟩, by simp [intOf]; omega⟩
        · obtain rfl : k = 32 := by omega
          have hr2 := Rd.of_own ho
          have hlen : (Crc.burst xs K m.toNat 32).length = xs.length := Crc.burst_length _ _ _ _
          have HL := Lib.hid hlen
          clear hlen
          go_wp2_with fail
          refine (crcSum _ c1 (Crc.burst xs K m.toNat 32) _ _ hr2 (by rw [HL.out]; unfold maxLen; omega) HL.out).mono ?_
          rintro e w3 ⟨rfl, rfl⟩
          rw [hs2.out]
          go_wp2_with fail
          refine (crcSum A cap xs _ _ (h.below hb) hl rfl).mono ?_
          rintro e w3 ⟨rfl, rfl⟩
          rw [hs.out]
          go_wp2_with fail
          refine (summed _).mono ?_
          rintro e w7 ⟨rfl, hw7⟩
          go_wp2_with fail
          go_ret
          exact ⟨rfl, hb.via hw7⟩
  · by_cases h1 : xs.length < 5
    · go_enter Try.func5, Try.ntmps5
      go_wp2_with fail
      refine (summed _).mono ?_
      rintro e w7 ⟨rfl, hw7⟩
      go_wp2_with fail
      go_ret
      exact ⟨rfl, hw7⟩
    · by_cases h2 : 3000 < xs.length
      · go_enter Try.func5, Try.ntmps5
        go_wp2_with fail
        refine (summed _).mono ?_
        rintro e w7 ⟨rfl, hw7⟩
        go_wp2_with fail
        go_ret
        exact ⟨rfl, hw7⟩
      · have h3 : ((m.toNat : Int) == 0) = true := by
          simp
          omega
        clear hc
        go_enter Try.func5, Try.ntmps5
        go_wp2_with fail
        refine (summed _).mono ?_
        rintro e w7 ⟨rfl, hw7⟩
        go_wp2_with fail
        go_ret
        exact ⟨rfl, hw7⟩
end Go.Proofs.Ytlfdphiakbnkmaa
