/- What the reference's readings of layer 1 compute. -/
import Derived.Test.YtpjmngmhpckobaaNumR
set_option linter.unusedVariables false
set_option linter.unusedSimpArgs false
set_option maxRecDepth 20000
namespace Go.Proofs.Ytpjmngmhpckobaa
open Go.RowKit Cib

theorem leN_drop (ls : List UInt8) (k : Nat) (h : k < ls.length) : Num.leN (ls.drop k) = (ls[k]).toNat + 256 * Num.leN (ls.drop (k + 1)) := by
  rw [List.drop_eq_getElem_cons h, Num.leN]

theorem refGet (A : Option Addr) (cap : Nat) (bs : List UInt8) (at_ width : Int) (w : World) (B : Nat) (h : Rd w B A (bs.map bv)) {len : Nat} (hn : bs.length = len) (hcm : len ≤ maxLen)
    (ha : -9223372036854775808 ≤ at_ ∧ at_ ≤ 9223372036854775807) (hwi : -9223372036854775808 ≤ width ∧ width ≤ 9223372036854775807) :
    Calls Try.prog 16 #[.slice A len cap, .int .i64 at_, .int .i64 width] w fun e w' => e = .returned (getV bs at_ width) ∧ w = w' := by
  subst hn
  obtain ⟨ha0, ha1⟩ := ha
  obtain ⟨hw0, hw1⟩ := hwi
  unfold maxLen at hcm
  by_cases hc : width < 1 ∨ 8 < width ∨ at_ < 0 ∨ (bs.length : Int) < at_
  · have HV : Hid (getP bs at_ width = (0, 2)) := if_pos hc
    by_cases h1 : width < 1
    · clear hc
      go_enter Try.func16, Try.ntmps16
      go_wp2
      go_ret2
      exact ⟨by unfold getV; rw [HV.out]; rfl, rfl⟩
    · by_cases h2 : 8 < width
      · clear hc
        go_enter Try.func16, Try.ntmps16
        go_wp2
        go_ret2
        exact ⟨by unfold getV; rw [HV.out]; rfl, rfl⟩
      · by_cases h3 : at_ < 0
        · clear hc
          go_enter Try.func16, Try.ntmps16
          go_wp2
          go_ret2
          exact ⟨by unfold getV; rw [HV.out]; rfl, rfl⟩
        · have h4 : (bs.length : Int) < at_ := by omega
          clear hc
          go_enter Try.func16, Try.ntmps16
          go_wp2
          go_ret2
          exact ⟨by unfold getV; rw [HV.out]; rfl, rfl⟩
  · obtain ⟨a, rfl⟩ := Int.eq_ofNat_of_zero_le (by omega : 0 ≤ at_)
    obtain ⟨wd, rfl⟩ := Int.eq_ofNat_of_zero_le (by omega : 0 ≤ width)
    have hal : a ≤ bs.length := by omega
    have hw8 : wd ≤ 8 := by omega
    have hw18 : 1 ≤ wd := by omega
    have hd1 : decide (bs.length < a) = false := by simp; omega
    have hd2 : decide ((a : Int) < 0) = false := by simp
    have hd3 : decide ((wd : Int) < 1) = false := by simp; omega
    have hd4 : decide (8 < (wd : Int)) = false := by simp; omega
    by_cases hs : (bs.length : Int) - (a : Int) < (wd : Int)
    · have HV : Hid (getP bs (a : Int) (wd : Int) = (0, 5)) := (if_neg hc).trans (if_pos hs)
      clear hc
      go_enter Try.func16, Try.ntmps16
      go_wp2
      go_ret2
      exact ⟨by unfold getV; rw [HV.out]; rfl, rfl⟩
    · have HV : Hid (getP bs (a : Int) (wd : Int) = (Num.leN ((bs.drop a).take wd), 0)) := (if_neg hc).trans (if_neg hs)
      have hd5 : decide ((bs.length : Int) - (a : Int) < (wd : Int)) = false := by simp; omega
      have hln : ((bs.drop a).take wd).length = wd := by simp; omega
      have hget : ∀ k (h2 : k < ((bs.drop a).take wd).length) (h3 : a + k < bs.length), ((bs.drop a).take wd)[k] = bs[a + k] := fun k h2 h3 => by simp
      have HG := Lib.hid hget
      have HLN := Lib.hid hln
      generalize hls : (bs.drop a).take wd = ls at *
      clear hln hc hget hls
      go_enter Try.func16, Try.ntmps16
      go_wp2
      go_loop [8, 9] (fun v i => ∃ k : Nat, k ≤ wd ∧ i = .int .i64 ((k : Int) - 1) ∧ v = .int .u64 (Num.leN (ls.drop k) : Nat)) (fun _ i => (intOf i + 1).toNat)
      case atStart => exact ⟨wd, Nat.le_refl _, rfl, int_eq (by rw [List.drop_eq_nil_of_le (by rw [HLN.out]; exact Nat.le_refl _)]; rfl)⟩
      case round =>
        obtain ⟨k, hk, rfl, rfl⟩ := hrel
        by_cases hlt : 0 < k
        · obtain ⟨j, rfl⟩ : ∃ j, k = j + 1 := ⟨k - 1, by omega⟩
          have hjl : a + j < bs.length := by omega
          obtain ⟨ad, rfl, _, hc2⟩ := h.byte hjl
          have HT : Hid (Num.leN (ls.drop j) = (bs[a + j]).toNat + 256 * Num.leN (ls.drop (j + 1))) := by
            unfold Hid
            rw [leN_drop ls j (by rw [HLN.out]; omega), HG.out j (by rw [HLN.out]; omega) hjl]
          have hmlt : Num.leN (ls.drop (j + 1)) < 72057594037927936 := by
            have h1 := Num.leN_lt (ls.drop (j + 1))
            rw [List.length_drop, HLN.out] at h1
            exact Nat.lt_of_lt_of_le h1 (Nat.le_trans (Nat.pow_le_pow_right (by decide) (show wd - (j + 1) ≤ 7 by omega)) (by decide))
          generalize bs[a + j] = c at *
          have hcb := c.toNat_lt
          generalize Num.leN (ls.drop (j + 1)) = m at *
          have hj1 : ((j + 1 : Nat) : Int) - 1 = (j : Int) := by omega
          rw [hj1]
          clear hj1
          go_wp2
          go_round
          case rel => exact ⟨j, by omega, rfl, int_eq (by rw [HT.out]; simp; omega)⟩
          case measure => simp [intOf]
        · obtain rfl : k = 0 := by omega
          go_wp2
          go_ret2
          exact ⟨by unfold getV; rw [HV.out]; rfl, rfl⟩

theorem var_sum (k m d : Nat) (hk : k ≤ 9) (hm : m < 128 ^ k) (hd : d < 128) (h9 : k = 9 → d ≤ 1) : m + d * 128 ^ k ≤ 18446744073709551615 := by
  have hx : d * 128 ^ k + 128 ^ k ≤ 18446744073709551616 := by
    rw [← Num.cap_mul hk, ← Nat.succ_mul, Nat.mul_comm]
    refine Nat.mul_le_mul_left _ ?_
    by_cases h : k = 9
    · subst h
      have := h9 rfl
      rw [Num.cap_nine]
      omega
    · have := Num.cap_succ (i := k) (by omega)
      have := Num.cap_pos (k + 1)
      omega
  omega
theorem refVar (A : Option Addr) (cap : Nat) (bs : List UInt8) (at_ : Int) (w : World) (B : Nat) (h : Rd w B A (bs.map bv)) {len : Nat} (hn : bs.length = len) (hcm : len ≤ maxLen) (ha : -9223372036854775808 ≤ at_ ∧ at_ ≤ 9223372036854775807) :
    Calls Try.prog 10 #[.slice A len cap, .int .i64 at_] w fun e w' => e = .returned (varV bs at_) ∧ w = w' := by
  subst hn
  obtain ⟨ha0, ha1⟩ := ha
  unfold maxLen at hcm
  by_cases hc : at_ < 0 ∨ (bs.length : Int) < at_
  · have HV : Hid (Num.var bs at_ = (0, 0, 2)) := if_pos hc
    by_cases h1 : at_ < 0
    · clear hc
      go_enter Try.func10, Try.ntmps10
      go_wp2
      go_ret3
      exact ⟨by unfold varV; rw [HV.out]; rfl, rfl⟩
    · have h2 : (bs.length : Int) < at_ := by omega
      clear hc
      go_enter Try.func10, Try.ntmps10
      go_wp2
      go_ret3
      exact ⟨by unfold varV; rw [HV.out]; rfl, rfl⟩
  · obtain ⟨a, rfl⟩ := Int.eq_ofNat_of_zero_le (by omega : 0 ≤ at_)
    have hal : a ≤ bs.length := by omega
    have HV : Hid (Num.var bs (a : Int) = ((Num.rv (bs.drop a) 0 0).1, if (Num.rv (bs.drop a) 0 0).2.2 = 0 then (a : Int) + ((Num.rv (bs.drop a) 0 0).2.1 : Int) else 0, (Num.rv (bs.drop a) 0 0).2.2)) := by
      unfold Hid Num.var
      rw [if_neg hc]
      rfl
    clear hc
    have hd1 : decide (bs.length < a) = false := by simp; omega
    have hd2 : decide ((a : Int) < 0) = false := by simp
    have hln : (bs.drop a).length = bs.length - a := by simp
    have hget : ∀ k (h2 : k < (bs.drop a).length) (h3 : a + k < bs.length), (bs.drop a)[k] = bs[a + k] := fun k h2 h3 => by simp
    have HG := Lib.hid hget
    have HLN := Lib.hid hln
    generalize hls : bs.drop a = ls at *
    clear hln hget hls
    go_enter Try.func10, Try.ntmps10
    go_wp2
    go_loop [7, 8, 9, 10] (fun v u i _ => ∃ k m p : Nat, k ≤ 9 ∧ k ≤ bs.length - a ∧ i = .int .i64 k ∧ v = .int .u64 m ∧ u = .int .u64 p ∧ Hid (p = 128 ^ k) ∧ Hid (m < 128 ^ k) ∧ Hid (Num.rv ls 0 0 = Num.rv (ls.drop k) k m)) (fun _ _ i _ => 10 - (intOf i).toNat)
    case atStart => exact ⟨0, 0, 1, by omega, Nat.zero_le _, rfl, rfl, rfl, rfl, by unfold Hid; simp, rfl⟩
    case round =>
      obtain ⟨k, m, p, h9, hk, rfl, rfl, rfl, hp, hm, HR⟩ := hrel
      have hp64 : p ≤ 9223372036854775808 := by
        rw [hp.out]
        exact Nat.le_trans (Nat.pow_le_pow_right (by decide) h9) (by decide)
      by_cases hlt : k < bs.length - a
      · have hkl : k < ls.length := by rw [HLN.out]; exact hlt
        have hjl : a + k < bs.length := by omega
        obtain ⟨ad, rfl, _, hc2⟩ := h.byte hjl
        have HC : Hid (Num.rv ls 0 0 = if (k = 9 ∧ 1 < (bs[a + k]).toNat) ∨ (0 < k ∧ (bs[a + k]).toNat = 0) then (0, 0, 3)
          else if (bs[a + k]).toNat < 128 then (m + (bs[a + k]).toNat % 128 * 128 ^ k, k + 1, 0) else Num.rv (ls.drop (k + 1)) (k + 1) (m + (bs[a + k]).toNat % 128 * 128 ^ k)) := by
          unfold Hid
          rw [HR.out, List.drop_eq_getElem_cons hkl, Num.rv, HG.out k hkl hjl]
        generalize bs[a + k] = c at *
        have hcb := c.toNat_lt
        have hcv : (c.toNat : Int) % 128 = ((c.toNat % 128 : Nat) : Int) := by omega
        obtain ⟨d, hd⟩ : ∃ d : Nat, Hid (c.toNat % 128 = d) := ⟨_, rfl⟩
        rw [hd.out] at hcv
        have hdl : d < 128 := by rw [← hd.out]; exact Nat.mod_lt _ (by decide)
        by_cases ho : (k = 9 ∧ 1 < c.toNat) ∨ (0 < k ∧ c.toNat = 0)
        · have HZ : Hid (Num.rv ls 0 0 = (0, 0, 3)) := HC.out.trans (if_pos ho)
          clear HC HR
          by_cases h99 : k = 9
          · have hk9 : ((k : Int) == 9) = true := by rw [beq_iff_eq]; omega
            have hk0 : 0 < k := by omega
            clear h99
            by_cases h1 : 1 < c.toNat
            · clear ho
              go_wp2
              go_ret3
              exact ⟨by unfold varV; rw [HV.out, HZ.out]; rfl, rfl⟩
            · have h0 : c.toNat = 0 := by omega
              rw [h0] at hc2
              clear ho hcv h0
              go_wp2
              go_ret3
              exact ⟨by unfold varV; rw [HV.out, HZ.out]; rfl, rfl⟩
          · have h0 : c.toNat = 0 := by omega
            have hk0 : 0 < k := by omega
            have hk9 : ((k : Int) == 9) = false := by simp; omega
            rw [h0] at hc2
            clear ho hcv h99 h0
            go_wp2
            go_ret3
            exact ⟨by unfold varV; rw [HV.out, HZ.out]; rfl, rfl⟩
        · have hsum := var_sum k m d h9 hm.out hdl (fun e => by rw [← hd.out]; omega)
          have hpd : p * d = d * 128 ^ k := by rw [hp.out, Nat.mul_comm]
          obtain ⟨x, hx⟩ : ∃ x, Hid (p * d = x) := ⟨_, rfl⟩
          have hxi : (p : Int) * (d : Int) = (x : Int) := by rw [← hx.out]; simp
          rw [← hpd, hx.out] at hsum
          have hq : k ≤ 8 → p * 128 ≤ 9223372036854775808 := by
            intro h8
            rw [hp.out, ← Nat.pow_succ]
            exact Nat.le_trans (Nat.pow_le_pow_right (by decide) (show k + 1 ≤ 9 by omega)) (by decide)
          have HPD := Lib.hid hpd
          have HNO := Lib.hid ho
          clear hpd
          by_cases h128 : c.toNat < 128
          · have HZ : Hid (Num.rv ls 0 0 = (m + x, k + 1, 0)) := by
              unfold Hid
              rw [HC.out, if_neg ho, if_pos h128, ← hx.out, HPD.out, hd.out]
            clear ho
            by_cases h99 : k = 9
            · have hk9 : ((k : Int) == 9) = true := by rw [beq_iff_eq]; omega
              have hk0 : 0 < k := by omega
              have hc1 : c.toNat = 1 := by have := HNO.out; omega
              have hc1' : ¬ 1 < c.toNat := by omega
              have hc1'' : ((c.toNat : Int) == 0) = false := by simp; omega
              clear h99 hc1
              go_wp2
              go_ret3
              exact ⟨by unfold varV; rw [HV.out, HZ.out]; exact tup3 rfl (int_eq (by simp; omega)) rfl, rfl⟩
            · have hk9 : ((k : Int) == 9) = false := by simp; omega
              by_cases hk0 : 0 < k
              · have hc0 : ((c.toNat : Int) == 0) = false := by have := HNO.out; simp; omega
                clear h99
                go_wp2
                go_ret3
                exact ⟨by unfold varV; rw [HV.out, HZ.out]; exact tup3 rfl (int_eq (by simp; omega)) rfl, rfl⟩
              · clear h99
                go_wp2
                go_ret3
                exact ⟨by unfold varV; rw [HV.out, HZ.out]; exact tup3 rfl (int_eq (by simp; omega)) rfl, rfl⟩
          · have HZ : Hid (Num.rv ls 0 0 = Num.rv (ls.drop (k + 1)) (k + 1) (m + x)) := by
              unfold Hid
              rw [HC.out, if_neg ho, if_neg h128, ← hx.out, HPD.out, hd.out]
            have hk8 : k ≤ 8 := by omega
            have hmx : Hid (m + x < 128 ^ (k + 1)) := by
              have := hm.out
              unfold Hid
              rw [← hx.out, HPD.out, Nat.pow_succ]
              generalize 128 ^ k = r at *
              have : d * r ≤ 127 * r := Nat.mul_le_mul_right _ (by omega)
              omega
            have hp2 : Hid (p * 128 = 128 ^ (k + 1)) := by unfold Hid; rw [hp.out, Nat.pow_succ]
            have hpq := hq hk8
            have hk9 : ((k : Int) == 9) = false := by simp; omega
            clear ho hq
            by_cases hk0 : 0 < k
            · have hc0 : ((c.toNat : Int) == 0) = false := by simp; omega
              go_wp2
              exact ⟨⟨k + 1, m + x, p * 128, by omega, by omega, by go_num, by go_num, by go_num, hp2, hmx, HZ⟩, by simp [intOf]; omega⟩
            · go_wp2
              exact ⟨⟨k + 1, m + x, p * 128, by omega, by omega, by go_num, by go_num, by go_num, hp2, hmx, HZ⟩, by simp [intOf]; omega⟩
      · obtain rfl : k = bs.length - a := by omega
        have HC : Hid (Num.rv ls 0 0 = (0, 0, 5)) := by
          unfold Hid
          rw [HR.out, List.drop_eq_nil_of_le (by rw [HLN.out]; exact Nat.le_refl _), Num.rv]
        go_wp2
        go_ret3
        exact ⟨by unfold varV; rw [HV.out, HC.out]; rfl, rfl⟩

/-- What the reference's Text answers. -/
def textV (bs : List UInt8) (at_ most : Int) : Value := .tuple #[.string ⟨(Num.part bs at_ most).1.toArray⟩, .int .i64 (Num.part bs at_ most).2.1, .int .i64 ((Num.part bs at_ most).2.2 : Int)]

theorem refTextM (A : Option Addr) (cap : Nat) (bs : List UInt8) (at_ : Int) (M : Nat) (w : World) (B : Nat) (h : Rd w B A (bs.map bv)) (hcap : bs.length ≤ cap) (hcm : cap ≤ maxLen) (ha : -9223372036854775808 ≤ at_ ∧ at_ ≤ 9223372036854775807) (hM : (M : Int) ≤ 9223372036854775807) (hm : 0 < (M : Int)) :
    Calls Try.prog 20 #[.slice A bs.length cap, .int .i64 at_, .int .i64 (M : Int)] w fun e w' => e = .returned (textV bs at_ (M : Int)) ∧ w = w' := by
  have hcm' := hcm
  unfold maxLen at hcm'
  have hvar := refVar A cap bs at_ w B h rfl (Nat.le_trans hcap hcm) ha
  unfold varV at hvar
  have hok := Num.var_ok bs at_
  have hpart : Num.part bs at_ (M : Int) = Num.partOf bs (M : Int) (Num.var bs at_) := rfl
  generalize Num.var bs at_ = v at *
  obtain ⟨n, p, e⟩ := v
  simp only at hvar hok
  have HV := Lib.hid hvar
  clear hvar
  by_cases he : e = 0
  · subst he
    obtain ⟨hn64, P, rfl, hPl⟩ := hok rfl
    clear hok
    have HP : Hid (Num.part bs at_ (M : Int) = if (max (M : Int) 0).toNat < n then ([], 0, 6) else if bs.length - P < n then ([], 0, 5) else ((bs.drop P).take n, (P : Int) + (n : Int), 0)) := hpart
    clear hpart
    have hmx : (max (M : Int) 0).toNat = M := by omega
    rw [hmx] at HP
    clear hmx
    by_cases h1 : M < n
    · rw [if_pos h1] at HP
      go_enter Try.func20, Try.ntmps20
      go_wp2_with (go_at_call 10; refine HV.out.mono ?_; rintro e w' ⟨rfl, rfl⟩)
      go_ret3
      exact ⟨by unfold textV; rw [HP.out]; rfl, rfl⟩
    · rw [if_neg h1] at HP
      by_cases h2 : bs.length - P < n
      · rw [if_pos h2] at HP
        have h2' : (bs.length : Int) - (P : Int) < (n : Int) := by omega
        go_enter Try.func20, Try.ntmps20
        go_wp2_with (go_at_call 10; refine HV.out.mono ?_; rintro e w' ⟨rfl, rfl⟩)
        go_ret3
        exact ⟨by unfold textV; rw [HP.out]; rfl, rfl⟩
      · rw [if_neg h2] at HP
        have h2' : ¬ (bs.length : Int) - (P : Int) < (n : Int) := by omega
        have hsl := fun W : World => run_cut_both (P := Try.prog) 22 5 Try.underlying22 sizeByte A bs.length cap P (P + n) .i64 .i64 (by omega) (by omega) W
        rw [Int.natCast_add, Nat.add_sub_cancel_left] at hsl
        have hr : Rd w B (cut A cap P) (((bs.drop P).take n).map bv) := by
          rw [List.map_take, List.map_drop]
          exact (h.cut (by rw [List.length_map]; omega) (by rw [List.length_map]; omega)).take n
        have hln : ((bs.drop P).take n).length = n := by simp; omega
        have hstr := run_str (P := Try.prog) 22 9 5 Try.underlying22 Try.underlying5 Try.underlying9 hr hln (cap - P)
        have HLN := Lib.hid hln
        clear hln
        generalize cut A cap P = A' at *
        go_enter Try.func20, Try.ntmps20
        go_wp2_with (go_at_call 10; refine HV.out.mono ?_; rintro e w' ⟨rfl, rfl⟩)
        go_ret3
        exact ⟨by unfold textV; rw [HP.out]; rfl, rfl⟩
  · have hne : ((e : Int) != 0) = true := by rw [bne_iff_ne]; omega
    have HP : Hid (Num.part bs at_ (M : Int) = ([], 0, e)) := hpart.trans (if_pos he)
    clear hpart hok he
    go_enter Try.func20, Try.ntmps20
    go_wp2_with (go_at_call 10; refine HV.out.mono ?_; rintro e w' ⟨rfl, rfl⟩)
    go_ret3
    exact ⟨by unfold textV; rw [HP.out]; rfl, rfl⟩

theorem refText0 (A : Option Addr) (cap : Nat) (bs : List UInt8) (at_ : Int) (most : Int) (w : World) (B : Nat) (h : Rd w B A (bs.map bv)) (hcap : bs.length ≤ cap) (hcm : cap ≤ maxLen) (ha : -9223372036854775808 ≤ at_ ∧ at_ ≤ 9223372036854775807) (hm : most ≤ 0) :
    Calls Try.prog 20 #[.slice A bs.length cap, .int .i64 at_, .int .i64 most] w fun e w' => e = .returned (textV bs at_ most) ∧ w = w' := by
  have hcm' := hcm
  unfold maxLen at hcm'
  have hvar := refVar A cap bs at_ w B h rfl (Nat.le_trans hcap hcm) ha
  unfold varV at hvar
  have hok := Num.var_ok bs at_
  have hpart : Num.part bs at_ most = Num.partOf bs most (Num.var bs at_) := rfl
  generalize Num.var bs at_ = v at *
  obtain ⟨n, p, e⟩ := v
  simp only at hvar hok
  have HV := Lib.hid hvar
  clear hvar
  by_cases he : e = 0
  · subst he
    obtain ⟨hn64, P, rfl, hPl⟩ := hok rfl
    clear hok
    have HP : Hid (Num.part bs at_ most = if (max most 0).toNat < n then ([], 0, 6) else if bs.length - P < n then ([], 0, 5) else ((bs.drop P).take n, (P : Int) + (n : Int), 0)) := hpart
    clear hpart
    have hmx : (max most 0).toNat = 0 := by omega
    rw [hmx] at HP
    clear hmx
    by_cases h1 : 0 < n
    · rw [if_pos h1] at HP
      go_enter Try.func20, Try.ntmps20
      go_wp2_with (go_at_call 10; refine HV.out.mono ?_; rintro e w' ⟨rfl, rfl⟩)
      go_ret3
      exact ⟨by unfold textV; rw [HP.out]; rfl, rfl⟩
    · rw [if_neg h1] at HP
      by_cases h2 : bs.length - P < n
      · exact absurd h2 (by omega)
      · rw [if_neg h2] at HP
        have h2' : ¬ (bs.length : Int) - (P : Int) < (n : Int) := by omega
        have hsl := fun W : World => run_cut_both (P := Try.prog) 22 5 Try.underlying22 sizeByte A bs.length cap P (P + n) .i64 .i64 (by omega) (by omega) W
        rw [Int.natCast_add, Nat.add_sub_cancel_left] at hsl
        have hr : Rd w B (cut A cap P) (((bs.drop P).take n).map bv) := by
          rw [List.map_take, List.map_drop]
          exact (h.cut (by rw [List.length_map]; omega) (by rw [List.length_map]; omega)).take n
        have hln : ((bs.drop P).take n).length = n := by simp; omega
        have hstr := run_str (P := Try.prog) 22 9 5 Try.underlying22 Try.underlying5 Try.underlying9 hr hln (cap - P)
        have HLN := Lib.hid hln
        clear hln
        generalize cut A cap P = A' at *
        go_enter Try.func20, Try.ntmps20
        go_wp2_with (go_at_call 10; refine HV.out.mono ?_; rintro e w' ⟨rfl, rfl⟩)
        go_ret3
        exact ⟨by unfold textV; rw [HP.out]; rfl, rfl⟩
  · have hne : ((e : Int) != 0) = true := by rw [bne_iff_ne]; omega
    have HP : Hid (Num.part bs at_ most = ([], 0, e)) := hpart.trans (if_pos he)
    clear hpart hok he
    go_enter Try.func20, Try.ntmps20
    go_wp2_with (go_at_call 10; refine HV.out.mono ?_; rintro e w' ⟨rfl, rfl⟩)
    go_ret3
    exact ⟨by unfold textV; rw [HP.out]; rfl, rfl⟩

theorem refText (A : Option Addr) (cap : Nat) (bs : List UInt8) (at_ most : Int) (w : World) (B : Nat) (h : Rd w B A (bs.map bv)) {len : Nat} (hn : bs.length = len) (hcap : len ≤ cap) (hcm : cap ≤ maxLen) (ha : -9223372036854775808 ≤ at_ ∧ at_ ≤ 9223372036854775807) (hm : -9223372036854775808 ≤ most ∧ most ≤ 9223372036854775807) :
    Calls Try.prog 20 #[.slice A len cap, .int .i64 at_, .int .i64 most] w fun e w' => e = .returned (textV bs at_ most) ∧ w = w' := by
  subst hn
  rcases Int.lt_or_le 0 most with h0 | h0
  · obtain ⟨M, rfl⟩ := Int.eq_ofNat_of_zero_le (Int.le_of_lt h0)
    exact refTextM A cap bs at_ M w B h hcap hcm ha hm.2 h0
  · exact refText0 A cap bs at_ most w B h hcap hcm ha h0

theorem refPutText (A : Option Addr) (cap : Nat) (bs : List UInt8) (s : ByteArray) (w : World) (B : Nat) (h : Rd w B A (bs.map bv)) {len : Nat} (hn : bs.length = len) (hB : B ≤ w.heap.size) (hr : len + 2 * s.size + 20 ≤ 140737488355328) :
    Calls Try.prog 22 #[.slice A len cap, .string s] w (NewBytes (Num.text bs s.data.toList) w) := by
  have hsl : s.data.toList.length = s.size := Array.length_toList
  have HSL := Lib.hid hsl
  have HT : Hid (Num.text bs s.data.toList = (bs ++ Num.vb s.size) ++ s.data.toList) := by unfold Hid Num.text; rw [hsl, List.append_assoc]
  have hvl := (Num.varB_length 9 s.size)
  have HVL : (Num.vb s.size).length ≤ 10 := hvl.2
  clear hsl hvl
  go_enter Try.func22, Try.ntmps22
  go_wp2_with fail
  refine (refPutVar A cap bs s.size _ _ h hn hB (by omega) (by omega)).mono ?_
  rintro e w2 ⟨A2, n2, c2, rfl, hn2, ho2, hb2⟩
  have hn2' : n2 ≤ len + 10 := by rw [← hn2, List.length_append]; omega
  have HN2 := Lib.hid hn2
  clear hn2 HVL
  generalize Num.vb s.size = vs at *
  obtain ⟨c3, w3, hconv, hr3, hb3, hlt3⟩ := run_bytes (P := Try.prog) w2 9 22 5 s Try.underlying9 Try.underlying22 Try.underlying5
  go_wp2_with fail
  refine (refJoined A2 c2 (bs ++ vs) _ c3 s.data.toList _ (w2.heap.size + 1) (((Rd.of_own ho2).below hb3).more (Nat.le_succ _)) HN2.out hr3 HSL.out hlt3 (by omega)).mono ?_
  rintro e w4 ⟨A4, n4, c4, rfl, hn4, ho4, hb4⟩
  have HN4 := Lib.hid hn4
  clear hn4
  go_wp2_with fail
  go_ret
  have hb5 := hb2.via hb3
  exact ⟨_, _, _, rfl, by rw [HT.out]; exact HN4.out, by rw [HT.out]; exact ho4.mono hb5.size, hb5.via hb4⟩
end Go.Proofs.Ytpjmngmhpckobaa
