/- What the reference's functions of layer 1 compute. -/
import Derived.Test.YtmabmhiombnngaaNumQ
set_option linter.unusedVariables false
set_option linter.unusedSimpArgs false
set_option maxRecDepth 20000
namespace Go.Proofs.Ytmabmhiombnngaa
open Go.RowKit Cib

theorem refJoined (A : Option Addr) (cap : Nat) (xs : List UInt8) (A' : Option Addr) (cap' : Nat) (ys : List UInt8) (w : World) (B : Nat) (h : Rd w B A (xs.map bv)) {n : Nat} (hn : xs.length = n) (h' : Rd w B A' (ys.map bv)) {n' : Nat} (hn' : ys.length = n') (hB : B ≤ w.heap.size) (hl : n + n' ≤ 140737488355328) :
    Calls Try.prog 54 #[.slice A n cap, .slice A' n' cap'] w (NewBytes (xs ++ ys) w) := by
  subst hn
  subst hn'
  go_enter Try.func54, Try.ntmps54
  go_wp2_with (first
    | (at_builtin; refine appB _ rfl (.tmp 5) (.tmp 6) rfl w.heap.size (some ⟨w.heap.size, 0, none⟩) 0 0 [] rfl (World.ownsRow_made w #[] 0 (Nat.le_refl _) (Nat.zero_le _) rfl) _ A xs.length cap _ rfl (by simp) (h.alloc hB _) one_bytes (by omega) (by simp) ?_; intro A1 c1 w1 ho1 hg1 hb1; rw [Nat.zero_add] at ho1)
    | (at_builtin; refine appB _ rfl (.tmp 7) (.tmp 8) rfl w.heap.size A1 xs.length c1 _ rfl ho1 _ A' ys.length cap' _ rfl (by simp) ((h'.alloc hB _).below (hb1.mono hB)) one_bytes (by omega) (by have := hb1.size; simp at this; omega) ?_; intro A2 c2 w2 ho2 hg2 hb2))
  have hb3 := (((Below.refl _ _).alloc (Nat.le_refl _) _).trans hb1).trans hb2
  rw [List.nil_append, ← List.map_append] at ho2
  go_ret
  exact ⟨_, _, _, rfl, by simp, ho2, hb3⟩

theorem refPut (A : Option Addr) (cap : Nat) (bs : List UInt8) (width : Int) (n : Nat) (w : World) (B : Nat) (h : Rd w B A (bs.map bv)) {len : Nat} (hn : bs.length = len) (hB : B ≤ w.heap.size) (hw : -9223372036854775808 ≤ width ∧ width ≤ 9223372036854775807) (hu : n < 18446744073709551616) (hr : len + 8 ≤ 140737488355328) :
    Calls Try.prog 46 #[.slice A len cap, .int .i64 width, .int .u64 (n : Int)] w (NewBytes (Num.put bs width n) w) := by
  subst hn
  obtain ⟨hw0, hw1⟩ := hw
  by_cases hc : 1 ≤ width ∧ width ≤ 8
  · have HP : Hid (Num.put bs width n = bs ++ Num.leB n width.toNat) := if_pos hc
    obtain ⟨wd, rfl⟩ := Int.eq_ofNat_of_zero_le (by omega : 0 ≤ width)
    rw [Int.toNat_natCast] at HP
    obtain ⟨h1, h8⟩ := hc
    have HU := Lib.hid hu
    clear hu
    go_enter Try.func46, Try.ntmps46
    go_wp2
    go_loopw [2, 7, 8] (fun v b i wr => ∃ k m A2 c2, k ≤ wd ∧ i = .int .i64 (k : Nat) ∧ v = .int .u64 (m : Nat) ∧ Hid (m = n / 256 ^ k) ∧ m ≤ 18446744073709551615 ∧ Below w.heap.size w wr ∧ b = .slice A2 k c2 ∧ wr.ownsRow w.heap.size 5 1 (.slice A2 k c2) k ((Num.leB n k).map bv)) (fun _ _ i _ => wd - (intOf i).toNat)
    case atStart => exact ⟨0, n, none, 0, Nat.zero_le _, rfl, rfl, by unfold Hid; simp, by have := HU.out; omega, Below.refl _ _, rfl, World.ownsRow_nil _ _ _ _⟩
    case round =>
      obtain ⟨k, m, A2, c2, hk, rfl, rfl, hm, hm64, hb, rfl, ho⟩ := hrel
      have hsz := hb.size
      by_cases hlt : k < wd
      · have HN := Lib.hid (Num.leB_succ n k)
        obtain ⟨b, hbe, hval⟩ := byte_of m
        have hmb : (m : Int) % 256 % 256 = (b.toNat : Int) := by rw [hval]; have := b.toNat_lt; omega
        have HB : Hid (UInt8.ofNat (n / 256 ^ k) = b) := by unfold Hid; rw [← hm.out]; exact hbe.out
        have HM : Hid (m / 256 = n / 256 ^ (k + 1)) := by unfold Hid; rw [hm.out, Nat.pow_succ, Nat.div_div_eq_div_mul]
        go_wp2_with (at_builtin; refine appB _ rfl (.tmp 18) (.tmp 22) rfl w.heap.size A2 k c2 _ rfl (ho.alloc _) _ (some ⟨wr.heap.size, 0, none⟩) 1 1 [bv b] rfl rfl (Rd.new wr _ _ _ rfl) one_byte (by omega) (by simp; omega) ?_; intro A3 c3 w3 ho3 hg3 hb3)
        exact ⟨⟨k + 1, m / 256, A3, c3, by omega, by go_num, by go_num, HM, by omega, (hb.alloc hb.size _).trans hb3, rfl, by rw [HN.out, HB.out, List.map_append]; exact ho3⟩, by simp [intOf]; omega⟩
      · obtain rfl : k = wd := by omega
        have hd : decide ((k : Int) < (k : Int)) = false := by simp
        go_wp2_with (fail)
        refine (refJoined A cap bs A2 c2 (Num.leB n k) _ wr.heap.size ((h.below (hb.mono hB)).more (Nat.le_trans hB hsz)) rfl (Rd.of_own ho) (Num.leB_length _ _) (Nat.le_refl _) (by omega)).mono ?_
        rintro e w4 ⟨A4, n4, c4, rfl, hn4, ho4, hb4⟩
        have HN4 := Lib.hid hn4
        clear hn4
        go_wp2_with fail
        go_ret
        exact ⟨_, _, _, rfl, by rw [HP.out]; exact HN4.out, by rw [HP.out]; exact ho4.mono hsz, hb.via hb4⟩
  · have HP : Hid (Num.put bs width n = bs) := if_neg hc
    have hout : ∀ (wr : World), Below w.heap.size w wr → Calls Try.prog 54 #[.slice A bs.length cap, .slice none 0 0] wr fun e w' => NewBytes bs w e w' := fun wr hb => by
      refine (refJoined A cap bs none 0 [] _ wr.heap.size ((h.below (hb.mono hB)).more (Nat.le_trans hB hb.size)) rfl (Rd.nil _ _ _) (n' := 0) rfl (Nat.le_refl _) (by omega)).mono ?_
      rintro e w4 ⟨A4, n4, c4, rfl, hn4, ho4, hb4⟩
      rw [List.append_nil] at hn4 ho4
      exact ⟨_, _, _, rfl, hn4, ho4.mono hb.size, hb.via hb4⟩
    have HO := Lib.hid hout
    clear hout
    by_cases h1 : width < 1
    · clear hc
      have hd : decide (0 < width) = false := by simp; omega
      go_enter Try.func46, Try.ntmps46
      go_wp2
      go_loopw [2, 7, 8] (fun v b i wr => i = .int .i64 0 ∧ v = .int .u64 (n : Nat) ∧ b = .slice none 0 0 ∧ wr = w) (fun _ _ i _ => 1)
      case atStart => exact ⟨rfl, rfl, rfl, rfl⟩
      case round =>
        obtain ⟨rfl, rfl, rfl, rfl⟩ := hrel
        go_wp2_with fail
        refine (HO.out _ (Below.refl _ _)).mono ?_
        rintro e w4 ⟨A4, n4, c4, rfl, hn4, ho4, hb4⟩
        have HN4 := Lib.hid hn4
        clear hn4
        go_wp2_with fail
        go_ret
        exact ⟨_, _, _, rfl, by rw [HP.out]; exact HN4.out, by rw [HP.out]; exact ho4, hb4⟩
    · have h8 : 8 < width := by omega
      clear hc
      go_enter Try.func46, Try.ntmps46
      go_wp2
      go_loopw [2, 7, 8] (fun v b i wr => i = .int .i64 0 ∧ v = .int .u64 (n : Nat) ∧ b = .slice none 0 0 ∧ wr = w) (fun _ _ i _ => 1)
      case atStart => exact ⟨rfl, rfl, rfl, rfl⟩
      case round =>
        obtain ⟨rfl, rfl, rfl, rfl⟩ := hrel
        go_wp2_with fail
        refine (HO.out _ (Below.refl _ _)).mono ?_
        rintro e w4 ⟨A4, n4, c4, rfl, hn4, ho4, hb4⟩
        have HN4 := Lib.hid hn4
        clear hn4
        go_wp2_with fail
        go_ret
        exact ⟨_, _, _, rfl, by rw [HP.out]; exact HN4.out, by rw [HP.out]; exact ho4, hb4⟩

end Go.Proofs.Ytmabmhiombnngaa
