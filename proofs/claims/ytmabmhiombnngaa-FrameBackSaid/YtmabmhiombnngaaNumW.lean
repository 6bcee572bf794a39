/- What the functions of package num compute: contracts of each function. -/
import Derived.Test.YtmabmhiombnngaaBytes
import Derived.Test.YtmabmhiombnngaaNumP
set_option linter.unusedVariables false
set_option linter.unusedSimpArgs false
set_option maxRecDepth 20000
namespace Go.Proofs.Ytmabmhiombnngaa
open Go.RowKit Cib

/-- What a call answers that makes a slice of bytes. -/
abbrev NewBytes := NewB

theorem numGrown (A : Option Addr) (cap : Nat) (bs : List UInt8) (room : Int) (w : World) (B : Nat) (h : Rd w B A (bs.map bv)) {len : Nat} (hn : bs.length = len) (hB : B ≤ w.heap.size) (h0 : 0 ≤ room) (hr : (len : Int) + room ≤ 140737488355328) :
    Calls Try.prog 33 #[.slice A len cap, .int .i64 room] w (NewBytes bs w) := by
  subst hn
  obtain ⟨r, rfl⟩ := Int.eq_ofNat_of_zero_le h0
  obtain ⟨i0, hi, hz0, hz1, hz2⟩ := info_parts infoByte
  have hmk : ∀ W : World, (Instr.makeSlice 26 (.int .i64 (bs.length : Int)) (.int .i64 ((bs.length : Int) + (r : Int)))).run Try.prog W = .ok (.slice (some ⟨W.heap.size, 0, none⟩) bs.length (bs.length + r)) (W.alloc (.cells (madeCells #[.int .u8 0] (bs.length + r)) 5)) := by
    intro W
    have := run_make (P := Try.prog) W 26 5 i0 (.int .u8 0) Try.underlying26 hi hz0 .i64 .i64 (bs.length : Int) ((bs.length : Int) + (r : Int)) (by omega) (by omega) (by rw [hz2]; omega) (by omega)
    rw [hz1, Nat.mul_one, show ((bs.length : Int) + (r : Int)).toNat = bs.length + r from by omega, Int.toNat_natCast] at this
    exact this
  go_enter Try.func33, Try.ntmps33
  go_wp2
  go_loopw [6, 7, 17] (fun _ _ i wr => ∃ k : Nat, k ≤ bs.length ∧ i = .int .i64 k ∧ Below w.heap.size w wr ∧ wr.ownsRow w.heap.size 5 1 (.slice (some ⟨w.heap.size, 0, none⟩) bs.length (bs.length + r)) bs.length ((fillB bs k).map bv)) (fun _ _ i _ => bs.length - (intOf i).toNat)
  case atStart =>
    refine ⟨0, Nat.zero_le _, rfl, (Below.refl _ _).alloc (Nat.le_refl _) _, ?_⟩
    rw [fillB_zero, List.map_replicate]
    exact own_made w _ _ _ _ _ (Nat.le_refl _) (by omega) (by unfold maxLen; omega)
  case round =>
    obtain ⟨k, hk, rfl, hb, ho⟩ := hrel
    by_cases hlt : k < bs.length
    · obtain ⟨ad, rfl, hB2, hc2⟩ := ((h.more hB).below hb).byte hlt
      obtain ⟨hc1, hf1, hset⟩ := own_byte ho (j := k) (by rw [fillB_length _ _ hk]; exact hlt)
      have HS := Lib.hid (hset bs[k] 0)
      have HF := Lib.hid (fillB_set bs k hlt)
      clear hset
      go_wp2
      exact ⟨⟨k + 1, by omega, by go_num, hb.setCell (Nat.le_refl _) _, by rw [← HF.out]; exact HS.out⟩, by simp [intOf]; omega⟩
    · obtain rfl : k = bs.length := by omega
      rw [fillB_all] at ho
      go_wp2
      go_ret
      exact ⟨_, _, _, rfl, rfl, ho, hb⟩

theorem u64_byte (n : Nat) (k : Nat) : ∃ b : UInt8, Hid (UInt8.ofNat (n / 256 ^ k) = b) ∧ ((n : Int) / 2 ^ (8 * k) % 256 = (b.toNat : Int)) := by
  refine ⟨_, rfl, ?_⟩
  rw [UInt8.toNat_ofNat', show (256 : Nat) ^ k = 2 ^ (8 * k) from by rw [Nat.pow_mul]]
  simp

theorem numPut (A : Option Addr) (cap : Nat) (bs : List UInt8) (width : Int) (n : Nat) (w : World) (B : Nat) (h : Rd w B A (bs.map bv)) {len : Nat} (hn : bs.length = len) (hB : B ≤ w.heap.size) (hw : -9223372036854775808 ≤ width ∧ width ≤ 9223372036854775807) (hu : n < 18446744073709551616) (hr : len + 8 ≤ 140737488355328) :
    Calls Try.prog 37 #[.slice A len cap, .int .i64 width, .int .u64 (n : Int)] w (NewBytes (Num.put bs width n) w) := by
  subst hn
  obtain ⟨hw0, hw1⟩ := hw
  obtain ⟨i0, hi, hz0, hz1, hz2⟩ := info_parts infoByte
  by_cases hc : 1 ≤ width ∧ width ≤ 8
  · have HP : Hid (Num.put bs width n = bs ++ Num.leB n width.toNat) := if_pos hc
    obtain ⟨wd, rfl⟩ := Int.eq_ofNat_of_zero_le (by omega : 0 ≤ width)
    rw [Int.toNat_natCast] at HP
    obtain ⟨h1, h8⟩ := hc
    go_enter Try.func37, Try.ntmps37
    go_wp2_with fail
    refine (numGrown A cap bs 8 _ _ h rfl hB (by omega) (by omega)).mono ?_
    rintro e w1 ⟨A1, n1, c1, rfl, rfl, ho1, hb1⟩
    go_wp2
    go_loopw [7, 8, 19] (fun b _ i wr => ∃ k A2 c2, k ≤ wd ∧ i = .int .i64 (k : Nat) ∧ Below w.heap.size w wr ∧ b = .slice A2 (bs.length + k) c2 ∧ wr.ownsRow w.heap.size 5 1 (.slice A2 (bs.length + k) c2) (bs.length + k) ((bs ++ Num.leB n k).map bv)) (fun _ _ i _ => wd - (intOf i).toNat)
    case atStart => exact ⟨0, A1, c1, Nat.zero_le _, rfl, hb1, rfl, by simpa [Num.leB] using ho1⟩
    case round =>
      clear ho1 hb1
      obtain ⟨k, A2, c2, hk, rfl, hb, rfl, ho⟩ := hrel
      by_cases hlt : k < wd
      · obtain ⟨b, hbe, hval⟩ := u64_byte n k
        have HN := Lib.hid (Num.leB_succ n k)
        rw [hbe.out] at HN
        have hsz := hb.size
        go_wp2_with (at_builtin; refine wpList_app _ rfl (.tmp 22) (.tmp 28) _ rfl w.heap.size 5 i0 _ 1 Try.underlying26 hi hz0 hz1 hz2 rfl A2 (bs.length + k) c2 _ rfl (ho.alloc _) _ (some ⟨wr.heap.size, 0, none⟩) 1 1 [bv b] rfl rfl (Rd.new wr _ _ _ rfl) one_byte (by unfold maxLen; omega) (by omega) (by simp; omega) ?_; intro A3 c3 w3 ho3 hg3 hb3)
        exact ⟨⟨k + 1, A3, c3, by omega, by go_num, (hb.alloc hb.size _).trans hb3, rfl, by rw [HN.out, ← List.append_assoc, List.map_append]; exact ho3⟩, by simp [intOf]; omega⟩
      · obtain rfl : k = wd := by omega
        go_wp2
        go_ret
        exact ⟨_, _, _, rfl, by rw [HP.out]; simp [Num.leB_length], by rw [HP.out]; exact ho, hb⟩
  · have HP : Hid (Num.put bs width n = bs) := if_neg hc
    by_cases h1 : width < 1
    · clear hc
      go_enter Try.func37, Try.ntmps37
      go_wp2_with fail
      refine (numGrown A cap bs 8 _ _ h rfl hB (by omega) (by omega)).mono ?_
      rintro e w1 ⟨A1, n1, c1, rfl, rfl, ho1, hb1⟩
      go_wp2
      go_ret
      exact ⟨_, _, _, rfl, by rw [HP.out], by rw [HP.out]; exact ho1, hb1⟩
    · have h8 : 8 < width := by omega
      clear hc
      go_enter Try.func37, Try.ntmps37
      go_wp2_with fail
      refine (numGrown A cap bs 8 _ _ h rfl hB (by omega) (by omega)).mono ?_
      rintro e w1 ⟨A1, n1, c1, rfl, rfl, ho1, hb1⟩
      go_wp2
      go_ret
      exact ⟨_, _, _, rfl, by rw [HP.out], by rw [HP.out]; exact ho1, hb1⟩
end Go.Proofs.Ytmabmhiombnngaa
