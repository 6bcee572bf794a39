/- What package num's readings compute. -/
import Derived.Test.YtmabmhiombnngaaNumW
set_option linter.unusedVariables false
set_option linter.unusedSimpArgs false
set_option maxRecDepth 20000
namespace Go.Proofs.Ytmabmhiombnngaa
open Go.RowKit Cib

def oddB (c : UInt8) (i : Nat) : Bool := decide ((i = 9 ∧ 1 < c.toNat) ∨ (0 < i ∧ c.toNat = 0))
theorem numOdd (c : UInt8) (i : Nat) (w : World) (hi : i ≤ 9) :
    Calls Try.prog 49 #[.int .u8 (c.toNat : Int), .int .i64 (i : Int)] w fun e w' => e = .returned (.bool (oddB c i)) ∧ w = w' := by
  have hc := c.toNat_lt
  have cases5 : ∀ (b : Bool), oddB c i = b → (Calls Try.prog 49 #[.int .u8 (c.toNat : Int), .int .i64 (i : Int)] w fun e w' => e = .returned (.bool b) ∧ w = w') → (Calls Try.prog 49 #[.int .u8 (c.toNat : Int), .int .i64 (i : Int)] w fun e w' => e = .returned (.bool (oddB c i)) ∧ w = w') := by
    intro b hb h
    rw [hb]
    exact h
  by_cases h9 : i = 9
  · subst h9
    by_cases h1 : 1 < c.toNat
    · refine cases5 true (by simp [oddB, h1]) ?_
      clear cases5
      go_enter Try.func49, Try.ntmps49
      go_wp2
      go_ret
      exact ⟨rfl, rfl⟩
    · by_cases h0 : c.toNat = 0
      · refine cases5 true (by simp [oddB, h0]) ?_
        clear cases5
        rw [h0]
        go_enter Try.func49, Try.ntmps49
        go_wp2
        go_ret
        exact ⟨rfl, rfl⟩
      · refine cases5 false (by simp [oddB, h0]; omega) ?_
        clear cases5
        have h1' : c.toNat = 1 := by omega
        rw [h1']
        go_enter Try.func49, Try.ntmps49
        go_wp2
        go_ret
        exact ⟨rfl, rfl⟩
  · have h9' : ((i : Int) == 9) = false := by simp; omega
    by_cases h0 : i = 0
    · subst h0
      refine cases5 false (by simp [oddB]) ?_
      clear cases5 h9'
      go_enter Try.func49, Try.ntmps49
      go_wp2
      go_ret
      exact ⟨rfl, rfl⟩
    · have hp : 0 < i := by omega
      by_cases hz : c.toNat = 0
      · refine cases5 true (by simp [oddB, hz, hp]) ?_
        clear cases5
        rw [hz]
        clear h9 h0
        go_enter Try.func49, Try.ntmps49
        go_wp2
        go_ret
        exact ⟨rfl, rfl⟩
      · refine cases5 false (by simp [oddB, hz]; omega) ?_
        clear cases5
        have hz' : ((c.toNat : Int) == 0) = false := by simp; omega
        clear h9 h0 hz
        go_enter Try.func49, Try.ntmps49
        go_wp2
        go_ret
        exact ⟨rfl, rfl⟩

theorem var_mask (c : UInt8) : ∃ d : Nat, Hid (d = c.toNat % 128) ∧ d < 128 ∧ bits .andNot .u8 (c.toNat : Int) 128 = (d : Int) := by
  refine ⟨c.toNat % 128, rfl, Nat.mod_lt _ (by decide), ?_⟩
  have h := u8_andNot_nat c.toNat 128 c.toNat_lt (by decide)
  rw [show (255 : Nat) - 128 = 2 ^ 7 - 1 from rfl, Nat.and_two_pow_sub_one_eq_mod] at h
  exact h
theorem var_add (k m d : Nat) (hk : k ≤ 9) (hm : m < 128 ^ k) (hd : d < 128) (h9 : k = 9 → d ≤ 1) :
    ∃ x : Nat, Hid (x = d * 128 ^ k) ∧ IntKind.u64.wrap ((d : Int) * 2 ^ (7 * k)) = (x : Int) ∧ bits .or .u64 (m : Int) (x : Int) = ((m + x : Nat) : Int) := by
  have hp : (128 : Nat) ^ k = 2 ^ (7 * k) := by rw [Nat.pow_mul]
  have hx : d * 128 ^ k + 128 ^ k ≤ 18446744073709551616 := by
    rw [← Num.cap_mul hk, ← Nat.succ_mul, Nat.mul_comm]
    refine Nat.mul_le_mul_left _ ?_
    by_cases h : k = 9
    · subst h
      have := h9 rfl
      rw [Num.cap_nine]
      omega
    · have := Num.cap_succ (i := k) (by omega)
      have := Num.cap_pos (k + 1)
      omega
  refine ⟨d * 128 ^ k, rfl, ?_, ?_⟩
  · rw [hp] at hx ⊢
    have : (d : Int) * 2 ^ (7 * k) = ((d * 2 ^ (7 * k) : Nat) : Int) := by simp
    have := Nat.two_pow_pos (7 * k)
    rw [IntKind.wrap_u64, ‹(d : Int) * 2 ^ (7 * k) = _›]
    omega
  · have h1 : 0 < 128 ^ k := Nat.pow_pos (by decide)
    rw [u64_or_nat _ _ (by omega) (by omega)]
    rw [hp] at hm ⊢
    rw [Nat.or_comm, Nat.mul_comm, ← Nat.two_pow_add_eq_or_of_lt hm, Nat.add_comm]
/-- What Var answers, as a value. -/
def varV (bs : List UInt8) (at_ : Int) : Value := .tuple #[.int .u64 ((Num.var bs at_).1 : Int), .int .i64 (Num.var bs at_).2.1, .int .i64 ((Num.var bs at_).2.2 : Int)]
theorem tup3 {a a' b b' c c' : Value} (h1 : a = a') (h2 : b = b') (h3 : c = c') : Ending.returned (.tuple #[a, b, c]) = .returned (.tuple #[a', b', c']) := by rw [h1, h2, h3]


theorem numVar (A : Option Addr) (cap : Nat) (bs : List UInt8) (at_ : Int) (w : World) (B : Nat) (h : Rd w B A (bs.map bv)) {len : Nat} (hn : bs.length = len) (hcap : len ≤ cap) (hcm : cap ≤ maxLen) (ha : -9223372036854775808 ≤ at_ ∧ at_ ≤ 9223372036854775807) :
    Calls Try.prog 41 #[.slice A len cap, .int .i64 at_] w fun e w' => e = .returned (varV bs at_) ∧ w = w' := by
  subst hn
  obtain ⟨ha0, ha1⟩ := ha
  unfold maxLen at hcm
  by_cases hc : at_ < 0 ∨ (bs.length : Int) < at_
  · have HV : Hid (Num.var bs at_ = (0, 0, 2)) := if_pos hc
    by_cases h1 : at_ < 0
    · clear hc
      go_enter Try.func41, Try.ntmps41
      go_wp2
      go_ret3
      exact ⟨by unfold varV; rw [HV.out]; rfl, rfl⟩
    · have h2 : (bs.length : Int) < at_ := by omega
      clear hc
      go_enter Try.func41, Try.ntmps41
      go_wp2
      go_ret3
      exact ⟨by unfold varV; rw [HV.out]; rfl, rfl⟩
  · obtain ⟨a, rfl⟩ := Int.eq_ofNat_of_zero_le (by omega : 0 ≤ at_)
    have hal : a ≤ bs.length := by omega
    have HV : Hid (Num.var bs (a : Int) = ((Num.rv (bs.drop a) 0 0).1, if (Num.rv (bs.drop a) 0 0).2.2 = 0 then (a : Int) + ((Num.rv (bs.drop a) 0 0).2.1 : Int) else 0, (Num.rv (bs.drop a) 0 0).2.2)) := by
      unfold Hid Num.var
      rw [if_neg hc]
      rfl
    clear hc
    have hsl := fun W : World => run_cut_from (P := Try.prog) 26 5 Try.underlying26 sizeByte A bs.length cap a .i64 hal W
    have hr : Rd w B (cut A cap a) ((bs.drop a).map bv) := by rw [List.map_drop]; exact h.cut (by simpa using hal) (by simpa using hcap)
    generalize cut A cap a = A' at *
    have hd1 : decide (bs.length < a) = false := by simp; omega
    have hd2 : decide ((a : Int) < 0) = false := by simp
    go_enter Try.func41, Try.ntmps41
    go_wp2
    have hln : (bs.drop a).length = bs.length - a := by simp
    generalize bs.drop a = ls at *
    have HLN := Lib.hid hln
    clear hln
    go_loop [7, 8, 9, 22] (fun v _ _ i => ∃ k m : Nat, k ≤ 9 ∧ k ≤ bs.length - a ∧ i = .int .i64 k ∧ v = .int .u64 m ∧ m < 128 ^ k ∧ Hid (Num.rv ls 0 0 = Num.rv (ls.drop k) k m)) (fun _ _ _ i => bs.length - a - (intOf i).toNat)
    case atStart => exact ⟨0, 0, by omega, Nat.zero_le _, rfl, rfl, by simp, rfl⟩
    case round =>
      obtain ⟨k, m, h9, hk, rfl, rfl, hm, HR⟩ := hrel
      by_cases hlt : k < bs.length - a
      · have hkl : k < ls.length := by rw [HLN.out]; exact hlt
        obtain ⟨ad, rfl, _, hc2⟩ := hr.byte hkl
        have HC := Lib.hid (HR.out.trans (by rw [List.drop_eq_getElem_cons hkl, Num.rv]))
        generalize ls[k] = c at *
        have hcb := c.toNat_lt
        obtain ⟨d, hd, hd1, hx1⟩ := var_mask c
        have hcall := numOdd c k w h9
        by_cases ho : oddB c k = true
        · have HZ : Hid (Num.rv ls 0 0 = (0, 0, 3)) := HC.out.trans (if_pos (by simpa [oddB] using ho))
          rw [ho] at hcall
          have HO := Lib.hid hcall
          clear ho hm hcall
          go_wp2_with (go_at_call 49; refine HO.out.mono ?_; rintro e w' ⟨rfl, rfl⟩)
          go_ret3
          exact ⟨by unfold varV; rw [HV.out, HZ.out]; rfl, rfl⟩
        · have hof : oddB c k = false := by simpa using ho
          have hno : ¬((k = 9 ∧ 1 < c.toNat) ∨ (0 < k ∧ c.toNat = 0)) := by simpa [oddB] using ho
          have HN := Lib.hid hno
          obtain ⟨x, hx, hx2, hx3⟩ := var_add k m d h9 hm hd1 (fun e => by rw [hd.out]; omega)
          rw [hof] at hcall
          have HO := Lib.hid hcall
          have HM := Lib.hid hm
          clear ho hm hcall hof hno
          by_cases h128 : c.toNat < 128
          · have HZ : Hid (Num.rv ls 0 0 = (m + x, k + 1, 0)) := by
              unfold Hid
              rw [HC.out, if_neg HN.out, if_pos h128, hx.out, hd.out]
            go_wp2_with (go_at_call 49; refine HO.out.mono ?_; rintro e w' ⟨rfl, rfl⟩)
            go_ret3
            exact ⟨by unfold varV; rw [HV.out, HZ.out]; exact tup3 rfl (int_eq (by simp; omega)) rfl, rfl⟩
          · have HZ : Hid (Num.rv ls 0 0 = Num.rv (ls.drop (k + 1)) (k + 1) (m + x)) := by
              unfold Hid
              rw [HC.out, if_neg HN.out, if_neg h128, hx.out, hd.out]
            have hk9 : k ≤ 8 := by have := HN.out; omega
            have hmx : Hid (m + x < 128 ^ (k + 1)) := by
              have := HM.out
              unfold Hid
              rw [hx.out, Nat.pow_succ]
              generalize 128 ^ k = p at *
              have : d * p ≤ 127 * p := Nat.mul_le_mul_right _ (by omega)
              omega
            go_wp2_with (go_at_call 49; refine HO.out.mono ?_; rintro e w' ⟨rfl, rfl⟩)
            go_round
            case rel => exact ⟨k + 1, m + x, by omega, by omega, by go_num, rfl, hmx.out, HZ⟩
            case measure => simp [intOf]; omega
      · obtain rfl : k = bs.length - a := by omega
        have HC : Hid (Num.rv ls 0 0 = (0, 0, 5)) := by
          unfold Hid
          rw [HR.out, List.drop_eq_nil_of_le (by rw [HLN.out]; exact Nat.le_refl _), Num.rv]
        go_wp2
        go_ret3
        exact ⟨by unfold varV; rw [HV.out, HC.out]; rfl, rfl⟩
end Go.Proofs.Ytmabmhiombnngaa
