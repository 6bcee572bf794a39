/- What package num's other functions compute. -/
import Derived.Test.YtmabmhiombnngaaNumV
set_option linter.unusedVariables false
set_option linter.unusedSimpArgs false
set_option maxRecDepth 20000
namespace Go.Proofs.Ytmabmhiombnngaa
open Go.RowKit Cib

theorem get_or (k m : Nat) (c : UInt8) (hk : k ≤ 7) (hm : m < 256 ^ k) :
    ∃ x : Nat, Hid (x = 256 ^ k * c.toNat) ∧ IntKind.u64.wrap ((c.toNat : Int) * 2 ^ (8 * k)) = (x : Int) ∧ bits .or .u64 (m : Int) (x : Int) = ((m + x : Nat) : Int) := by
  have hp : (256 : Nat) ^ k = 2 ^ (8 * k) := by rw [Nat.pow_mul]
  have hc := c.toNat_lt
  have h8 : 256 ^ k * 256 ≤ 18446744073709551616 := by
    rw [← Nat.pow_succ]
    exact Nat.le_trans (Nat.pow_le_pow_right (by decide) (show k + 1 ≤ 8 by omega)) (by decide)
  have hx : 256 ^ k * c.toNat + 256 ^ k ≤ 256 ^ k * 256 := by
    rw [← Nat.mul_succ]
    exact Nat.mul_le_mul_left _ (by omega)
  refine ⟨256 ^ k * c.toNat, rfl, ?_, ?_⟩
  · rw [hp] at hx h8 ⊢
    have : (c.toNat : Int) * 2 ^ (8 * k) = ((2 ^ (8 * k) * c.toNat : Nat) : Int) := by rw [Nat.mul_comm (2 ^ (8 * k))]; simp
    have := Nat.two_pow_pos (8 * k)
    rw [IntKind.wrap_u64, ‹(c.toNat : Int) * 2 ^ (8 * k) = _›]
    omega
  · have h1 : 0 < 256 ^ k := Nat.pow_pos (by decide)
    rw [u64_or_nat _ _ (by omega) (by omega)]
    rw [hp] at hm ⊢
    rw [Nat.or_comm, ← Nat.two_pow_add_eq_or_of_lt hm, Nat.add_comm]

/-- The number of so many bytes that stands there, and the error. -/
def getP (bs : List UInt8) (at_ width : Int) : Nat × Nat :=
  if width < 1 ∨ 8 < width ∨ at_ < 0 ∨ (bs.length : Int) < at_ then (0, 2)
  else if (bs.length : Int) - at_ < width then (0, 5)
  else (Num.leN ((bs.drop at_.toNat).take width.toNat), 0)
def getV (bs : List UInt8) (at_ width : Int) : Value := .tuple #[.int .u64 ((getP bs at_ width).1 : Int), .int .i64 ((getP bs at_ width).2 : Int)]

theorem leN_take (ls : List UInt8) (k : Nat) (h : k < ls.length) : Num.leN (ls.take (k + 1)) = Num.leN (ls.take k) + 256 ^ k * (ls[k]).toNat := by
  rw [List.take_succ_eq_append_getElem h, Num.leN_snoc, List.length_take, Nat.min_eq_left (by omega)]

theorem numGet (A : Option Addr) (cap : Nat) (bs : List UInt8) (at_ width : Int) (w : World) (B : Nat) (h : Rd w B A (bs.map bv)) {len : Nat} (hn : bs.length = len) (hcap : len ≤ cap) (hcm : cap ≤ maxLen)
    (ha : -9223372036854775808 ≤ at_ ∧ at_ ≤ 9223372036854775807) (hwi : -9223372036854775808 ≤ width ∧ width ≤ 9223372036854775807) :
    Calls Try.prog 38 #[.slice A len cap, .int .i64 at_, .int .i64 width] w fun e w' => e = .returned (getV bs at_ width) ∧ w = w' := by
  subst hn
  obtain ⟨ha0, ha1⟩ := ha
  obtain ⟨hw0, hw1⟩ := hwi
  unfold maxLen at hcm
  by_cases hc : width < 1 ∨ 8 < width ∨ at_ < 0 ∨ (bs.length : Int) < at_
  · have HV : Hid (getP bs at_ width = (0, 2)) := if_pos hc
    by_cases h1 : width < 1
    · clear hc
      go_enter Try.func38, Try.ntmps38
      go_wp2
      go_ret2
      exact ⟨by unfold getV; rw [HV.out]; rfl, rfl⟩
    · by_cases h2 : 8 < width
      · clear hc
        go_enter Try.func38, Try.ntmps38
        go_wp2
        go_ret2
        exact ⟨by unfold getV; rw [HV.out]; rfl, rfl⟩
      · by_cases h3 : at_ < 0
        · clear hc
          go_enter Try.func38, Try.ntmps38
          go_wp2
          go_ret2
          exact ⟨by unfold getV; rw [HV.out]; rfl, rfl⟩
        · have h4 : (bs.length : Int) < at_ := by omega
          clear hc
          go_enter Try.func38, Try.ntmps38
          go_wp2
          go_ret2
          exact ⟨by unfold getV; rw [HV.out]; rfl, rfl⟩
  · obtain ⟨a, rfl⟩ := Int.eq_ofNat_of_zero_le (by omega : 0 ≤ at_)
    obtain ⟨wd, rfl⟩ := Int.eq_ofNat_of_zero_le (by omega : 0 ≤ width)
    have hal : a ≤ bs.length := by omega
    have hw8 : wd ≤ 8 := by omega
    have hw18 : 1 ≤ wd := by omega
    have hd1 : decide (bs.length < a) = false := by simp; omega
    have hd2 : decide ((a : Int) < 0) = false := by simp
    have hd3 : decide ((wd : Int) < 1) = false := by simp; omega
    have hd4 : decide (8 < (wd : Int)) = false := by simp; omega
    by_cases hs : (bs.length : Int) - (a : Int) < (wd : Int)
    · have HV : Hid (getP bs (a : Int) (wd : Int) = (0, 5)) := (if_neg hc).trans (if_pos hs)
      clear hc
      go_enter Try.func38, Try.ntmps38
      go_wp2
      go_ret2
      exact ⟨by unfold getV; rw [HV.out]; rfl, rfl⟩
    · have HV : Hid (getP bs (a : Int) (wd : Int) = (Num.leN ((bs.drop a).take wd), 0)) := (if_neg hc).trans (if_neg hs)
      have hd5 : decide ((bs.length : Int) - (a : Int) < (wd : Int)) = false := by simp; omega
      have hwl : a + wd ≤ cap := by omega
      have hsl := fun W : World => run_cut_both (P := Try.prog) 26 5 Try.underlying26 sizeByte A bs.length cap a (a + wd) .i64 .i64 (by omega) hwl W
      rw [Int.natCast_add, Nat.add_sub_cancel_left] at hsl
      have hr : Rd w B (cut A cap a) (((bs.drop a).take wd).map bv) := by rw [List.map_take, List.map_drop]; exact (h.cut (by simpa using hal) (by simpa using hcap)).take wd
      have hln : ((bs.drop a).take wd).length = wd := by simp; omega
      generalize cut A cap a = A' at *
      generalize (bs.drop a).take wd = ls at *
      have HLN := Lib.hid hln
      clear hln hc
      go_enter Try.func38, Try.ntmps38
      go_wp2
      go_loop [8, 9, 10, 40] (fun v _ _ i => ∃ k : Nat, k ≤ wd ∧ i = .int .i64 k ∧ v = .int .u64 (Num.leN (ls.take k) : Nat)) (fun _ _ _ i => wd - (intOf i).toNat)
      case atStart => exact ⟨0, Nat.zero_le _, rfl, rfl⟩
      case round =>
        obtain ⟨k, hk, rfl, rfl⟩ := hrel
        by_cases hlt : k < wd
        · have hkl : k < ls.length := by rw [HLN.out]; exact hlt
          obtain ⟨ad, rfl, _, hc2⟩ := hr.byte hkl
          have hmlt : Num.leN (ls.take k) < 256 ^ k := by
            have := Num.leN_lt (ls.take k)
            rwa [List.length_take, Nat.min_eq_left (by omega)] at this
          have HT := Lib.hid (leN_take ls k hkl)
          obtain ⟨x, hx, hx2, hx3⟩ := get_or k _ ls[k] (by omega) hmlt
          have HM := Lib.hid hmlt
          clear hmlt
          generalize ls[k] = c at *
          have hcb := c.toNat_lt
          generalize Num.leN (ls.take k) = m at *
          go_wp2
          go_round
          case rel => exact ⟨k + 1, by omega, by go_num, nat_eq (by rw [HT.out, hx.out])⟩
          case measure => simp [intOf]; omega
        · obtain rfl : k = wd := by omega
          have HT : Hid (ls.take k = ls) := List.take_of_length_le (by rw [HLN.out]; exact Nat.le_refl _)
          go_wp2
          go_ret2
          exact ⟨by unfold getV; rw [HV.out]; rw [HT.out]; rfl, rfl⟩

theorem var_low (n : Nat) : ∃ b : UInt8, Hid (UInt8.ofNat (n % 128 + 128) = b) ∧ bits .or .u8 ((n : Int) % 256) 128 = (b.toNat : Int) := by
  refine ⟨_, rfl, ?_⟩
  have h := u8_or_nat (n % 256) 128 (Nat.mod_lt _ (by decide)) (by decide)
  have e : (n % 256) ||| 128 = n % 128 + 128 := by
    have h1 : ∀ k : Fin 256, k.val ||| 128 = k.val % 128 + 128 := by decide
    have := h1 ⟨n % 256, Nat.mod_lt _ (by decide)⟩
    simp only at this
    rw [this, Nat.mod_mod_of_dvd _ (by decide)]
  rw [e] at h
  rw [UInt8.toNat_ofNat', Nat.mod_eq_of_lt (by omega)]
  simpa using h
theorem byte_of (n : Nat) : ∃ b : UInt8, Hid (UInt8.ofNat n = b) ∧ ((n : Int) % 256 = (b.toNat : Int)) := by
  refine ⟨_, rfl, ?_⟩
  rw [UInt8.toNat_ofNat']
  simp

theorem numPutVar (A : Option Addr) (cap : Nat) (bs : List UInt8) (n : Nat) (w : World) (B : Nat) (h : Rd w B A (bs.map bv)) {len : Nat} (hn : bs.length = len) (hB : B ≤ w.heap.size) (hu : n < 18446744073709551616) (hr : len + 10 ≤ 140737488355328) :
    Calls Try.prog 20 #[.slice A len cap, .int .u64 (n : Int)] w (NewBytes (bs ++ Num.vb n) w) := by
  subst hn
  go_enter Try.func20, Try.ntmps20
  go_wp2_with fail
  refine (numGrown A cap bs 10 _ _ h rfl hB (by omega) (by omega)).mono ?_
  rintro e w1 ⟨A1, n1, c1, rfl, rfl, ho1, hb1⟩
  go_wp2
  have HU := Lib.hid hu
  clear hu
  go_loopw [1, 5] (fun v b wr => ∃ k m A2 c2 pre, k ≤ 9 ∧ v = .int .u64 (m : Nat) ∧ Below w.heap.size w wr ∧ b = .slice A2 (bs.length + k) c2 ∧ wr.ownsRow w.heap.size 5 1 (.slice A2 (bs.length + k) c2) (bs.length + k) ((bs ++ pre).map bv) ∧ Hid (pre ++ Num.varB (9 - k) m = Num.vb n) ∧ Hid (m < Num.cap k) ∧ Hid (pre.length = k)) (fun v _ _ => (intOf v).toNat)
  case atStart => exact ⟨0, n, A1, c1, [], by omega, rfl, hb1, rfl, by simpa using ho1, rfl, HU.out, rfl⟩
  case round =>
    clear ho1 hb1
    obtain ⟨k, m, A2, c2, pre, hk, rfl, hb, rfl, ho, hv, hm, hpl⟩ := hrel
    have hsz := hb.size
    by_cases hlt : 128 ≤ m
    · obtain ⟨b, hbe, hval⟩ := var_low m
      have hk8 : k ≤ 8 := by
        have := hm.out
        rcases Nat.lt_or_ge k 9 with h9 | h9
        · omega
        · obtain rfl : k = 9 := by omega
          rw [Num.cap_nine] at this
          omega
      have hv2 : Hid ((pre ++ [b]) ++ Num.varB (9 - (k + 1)) (m / 128) = Num.vb n) := by
        unfold Hid
        rw [← hv.out, show 9 - k = (9 - (k + 1)) + 1 from by omega, Num.varB, if_neg (by omega), hbe.out]
        simp
      have hm2 : Hid (m / 128 < Num.cap (k + 1)) := by
        unfold Hid
        have := Num.cap_succ hk8
        have := hm.out
        omega
      go_wp2_with (at_builtin; refine appB _ rfl (.tmp 12) (.tmp 16) rfl w.heap.size A2 (bs.length + k) c2 _ rfl (ho.alloc _) _ (some ⟨wr.heap.size, 0, none⟩) 1 1 [bv b] rfl rfl (Rd.new wr _ _ _ rfl) one_byte (by omega) (by simp; omega) ?_; intro A3 c3 w3 ho3 hg3 hb3)
      exact ⟨⟨k + 1, m / 128, A3, c3, pre ++ [b], by omega, by go_num, (hb.alloc hb.size _).trans hb3, rfl, by rw [← List.append_assoc, List.map_append]; exact ho3, hv2, hm2, by unfold Hid; rw [List.length_append, hpl.out]; rfl⟩, by simp [intOf]; omega⟩
    · obtain ⟨b, rfl⟩ : ∃ b : UInt8, m = b.toNat := ⟨UInt8.ofNat m, by rw [UInt8.toNat_ofNat', Nat.mod_eq_of_lt (by omega)]⟩
      have hend : Hid (Num.vb n = pre ++ [b]) := by
        unfold Hid
        rw [← hv.out, Num.varB_low (by omega)]
        simp
      go_wp2_with (at_builtin; refine appB _ rfl (.tmp 18) (.tmp 21) rfl w.heap.size A2 (bs.length + k) c2 _ rfl (ho.alloc _) _ (some ⟨wr.heap.size, 0, none⟩) 1 1 [bv b] rfl rfl (Rd.new wr _ _ _ rfl) one_byte (by omega) (by simp; omega) ?_; intro A3 c3 w3 ho3 hg3 hb3)
      go_ret
      exact ⟨_, _, _, rfl, by rw [hend.out]; simp [hpl.out]; omega, by rw [hend.out, ← List.append_assoc, List.map_append]; exact ho3, (hb.alloc hb.size _).trans hb3⟩
end Go.Proofs.Ytmabmhiombnngaa
