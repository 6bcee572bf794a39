/- The law FrameSpoilt. Printed by genSpo.py. -/
import Derived.Test.YtmabmhiombnngaaFrmX
import Derived.Test.YtmabmhiombnngaaFrmB
import Derived.Test.YtmabmhiombnngaaSto
set_option linter.unusedVariables false
set_option linter.unusedSimpArgs false
set_option maxRecDepth 40000
namespace Cib
open Go Go.RowKit Go.Proofs
theorem u8_byte_xor (x : UInt8) (n : Nat) : bits .xor .u8 (x.toNat : Int) ((n : Int) % 256) = ((x ^^^ UInt8.ofNat n).toNat : Int) := by
  have e : (n : Int) % 256 = ((UInt8.ofNat n).toNat : Int) := by rw [UInt8.toNat_ofNat']; omega
  rw [e, u8_xor_nat _ _ x.toNat_lt (UInt8.toNat_lt _), UInt8.toNat_xor]
theorem clampN (a : Int) {n : Nat} (h : 0 < n) : ∃ K : Nat, Hid (max 0 (min a ((n : Int) - 1)) = (K : Int)) ∧ K < n := by
  refine ⟨(max 0 (min a ((n : Int) - 1))).toNat, ?_, by omega⟩
  unfold Hid
  omega
theorem clampO (a : Int) {n : Nat} (h : 11 ≤ n) : ∃ K : Nat, Hid (max 0 (min a ((n : Int) - 11)) = (K : Int)) ∧ K + 11 ≤ n := by
  refine ⟨(max 0 (min a ((n : Int) - 11))).toNat, ?_, by omega⟩
  unfold Hid
  omega
theorem Sts.put {w0 wr : World} {ad : Addr} {n c : Nat} {L : List RowB} {kk g W rc spot : Nat} {rb : List UInt8} (h : Sts w0 (some ad) n c (L.set kk ⟨some ⟨g, 0, none⟩, W, rc, rb⟩) wr) (hk : kk < L.length) (hl : rb.length = W) (hs : spot < W) :
    (ad.add kk).block < wr.heap.size ∧ g < wr.heap.size ∧ wr.cell? (ad.add kk) = some (.slice (some ⟨g, 0, none⟩) W rc) ∧ wr.cell? ⟨g, spot, none⟩ = some (.int .u8 ((rb.getD spot 0).toNat : Int)) ∧ wr.frozen? ⟨g, spot, none⟩ = false ∧
      ∀ (z : UInt8) (q : Nat), Sts w0 (some ad) n c (L.set kk ⟨some ⟨g, 0, none⟩, W, rc, rb.set spot z⟩) ((wr.drewN q).setCell ⟨g, spot, none⟩ (.int .u8 (z.toNat : Int))) := by
  have hk' : kk < (L.set kk ⟨some ⟨g, 0, none⟩, W, rc, rb⟩).length := by rw [List.length_set]; exact hk
  obtain ⟨ad', g', rc', rb', hA, h1, h2, h3, h4, h5, h6, h7⟩ := h.spot2 (at_ := kk) (spot := spot) (W := W) hk' (by rw [List.getElem_set_self]; exact hl) hs
  rw [List.getElem_set_self] at h3
  simp only [RowB.mk.injEq, Option.some.injEq, Addr.mk.injEq, and_true, true_and] at h3 hA
  obtain ⟨rfl, rfl, rfl⟩ := h3
  subst hA
  refine ⟨h1, h2, h4, h5, h6, fun z q => ?_⟩
  have := h7 z q
  rw [List.set_set] at this
  exact this
set_option maxHeartbeats 4000000 in
theorem lawSpoilt (A : Option Addr) (n c : Nat) (b : List UInt8) (room which off : Int) (m : BitVec 32) (w : World) (hb : Rd w w.heap.size A (b.map bv)) (hl : b.length = n) (hc : n ≤ c) (hcm : c ≤ maxLen) (hro : -9223372036854775808 ≤ room ∧ room ≤ 9223372036854775807) (hwh : -9223372036854775808 ≤ which ∧ which ≤ 9223372036854775807) (hof : -9223372036854775808 ≤ off ∧ off ≤ 9223372036854775807) :
    Calls Try.prog 6 #[.slice A n c, .int .i64 room, .int .i64 which, .int .i64 off, .int .u32 (m.toNat : Int)] w fun e w' => e = .returned (.bool true) ∧ Below w.heap.size w w' := by
  have hcm' := hcm
  unfold maxLen at hcm'
  have HB := Lib.hid hb
  have HFR := Lib.hid lawFrames
  have hml := m.isLt
  obtain ⟨mm, hmm⟩ : ∃ mm, m.toNat = mm := ⟨_, rfl⟩
  rw [hmm] at hml ⊢
  clear hmm
  clear hb
  by_cases hgo : 500 < n ∨ room < 12 ∨ 200 < room ∨ mm = 0
  · go_enter Try.func6, Try.ntmps6
    rcases hgo with h1 | h1 | h1 | h1
    all_goals
      try subst h1
      go_wp2_with (go_at_call 8; refine (HFR.out _).mono ?_; rintro e w' ⟨rfl, hb9⟩)
      all_goals (go_ret; exact ⟨rfl, hb9⟩)
  have hn5 : n ≤ 500 := by omega
  obtain ⟨R, rfl⟩ := Int.eq_ofNat_of_zero_le (show 0 ≤ room by omega)
  have hR1 : 12 ≤ R := by omega
  have hR2 : R ≤ 200 := by omega
  have h0 : mm ≠ 0 := by omega
  have h0' : ((mm : Int) == 0) = false := by simp; omega
  clear hgo
  have HC := Lib.hid (frmCut A n c b R w HB.out hl hc hcm (by omega) ⟨by omega, by omega⟩)
  have HPL := Lib.hid (Frm.cutF_pos R 1 0#32 b)
  have HPM := Lib.hid (Frm.cutF_len R (by omega) b.length b (Nat.le_refl _) 1 0#32)
  have HFT := Lib.hid (Frm.cut_fits R (by omega) b.length b (Nat.le_refl _) 1 0#32)
  have HSP := Lib.hid (fun o k y => Frm.join_spoilt R (by omega) (by omega) o mm hml h0 b.length b (Nat.le_refl _) 0 1 0#32 [] k y (by omega) (by omega))
  rw [hl] at HPM
  obtain ⟨P, hP⟩ : ∃ P, Frm.cutF R 1 0#32 b = P := ⟨_, rfl⟩
  simp only [hP] at HC HPL HPM HFT HSP
  clear HB hl
  go_enter Try.func6, Try.ntmps6
  go_wp2_with fail
  refine HC.out.mono ?_
  rintro e w1 ⟨A1, n1, c1, L, rfl, hL, hn1, ho1, hr1, hb1⟩
  have hn0 : 0 < n1 := by have := HPL.out; rw [← hL, List.length_map, hn1] at this; exact this
  have hn501 : n1 ≤ 501 := by have := HPM.out; rw [← hL, List.length_map, hn1] at this; omega
  have hRW : ∀ k (h : k < L.length), L[k].bs.length ≤ 200 := by
    intro k h
    have h2 := (HFT.out k (by rw [← hL, List.length_map]; exact h)).1
    simp only [← hL, List.getElem_map] at h2
    omega
  have HST := Lib.hid (show Sts w A1 n1 c1 L w1 from ⟨ho1, hr1, hb1⟩)
  have HL := Lib.hid hL
  have HLN := Lib.hid hn1
  have HRW := Lib.hid hRW
  have hcp := own_cap ho1
  have hc1 := hcp.1
  have hc2 := hcp.2
  unfold maxLen at hc2
  have HB1 := Lib.hid hb1
  clear hL hn1 ho1 hr1 hb1 hRW hcp HC HPL HPM HFT
  obtain ⟨K, hK, hKn⟩ := clampN which hn0
  obtain ⟨ad, rfl, hab, hcell⟩ := (Rd.of_own HST.out.own).row (show K < L.length by rw [HLN.out]; exact hKn)
  have hn0' : ((n1 : Int) == 0) = false := by simp; omega
  go_upto_region 6 with fail
  go_cut [13] (fun k wx => k = .int .i64 (K : Int) ∧ wx = w1)
  case first =>
    have hK' := hK.out
    clear hK hcell hab HST HB1
    go_wp2_with fail
    all_goals (go_meet; exact ⟨int_eq (by omega), rfl⟩)
  case rest =>
  obtain ⟨rfl, hwx⟩ := hcut
  replace hwx := hwx.symm
  subst hwx
  have hKL : K < L.length := by rw [HLN.out]; exact hKn
  have hrn := (HST.out.rows.at _ (List.getElem_mem hKL)).len
  have hW2 := HRW.out K hKL
  obtain ⟨r, hr⟩ : ∃ r, L[K] = r := ⟨_, rfl⟩
  rw [hr] at hcell hrn hW2
  rw [hrn] at hW2
  have HRE : Hid (∀ h : K < L.length, L[K] = r) := Lib.hid fun _ => hr
  have HRN := Lib.hid hrn
  clear hr hKL hrn
  by_cases hsh : r.n < 11
  · obtain ⟨rA, W, rc, rb⟩ := r
    simp only at hcell hsh hW2
    clear hn0 hn501 hK HRE HRN HST
    go_wp2_with (go_at_call 8; refine (HFR.out _).mono ?_; rintro e w' ⟨rfl, hb9⟩)
    go_ret
    exact ⟨rfl, HB1.out.via hb9⟩
  have hKL : K < L.length := by rw [HLN.out]; exact hKn
  obtain ⟨W, hW⟩ : ∃ W, r.n = W := ⟨_, rfl⟩
  obtain ⟨_, g, rc, T, hA, hlt1, hlt2, hrow, hcell2, _, _, _⟩ := HST.out.spot2 (spot := 0) (W := W) hKL (by rw [HRE.out hKL, HRN.out, hW]) (by omega)
  cases hA
  rw [hW] at hsh hW2
  have hrT : r = ⟨some ⟨g, 0, none⟩, W, rc, T⟩ := by rw [← HRE.out hKL]; exact hrow
  have hTW : T.length = W := by
    have h1 := HRN.out
    rw [hW, hrT] at h1
    exact h1
  have hset0 : L.set K ⟨some ⟨g, 0, none⟩, W, rc, T⟩ = L := by
    rw [← hrow, List.set_getElem_self]
  obtain ⟨O, hO, hOW⟩ := clampO off (n := W) (by omega)
  have hPT : P[K]? = some T := by
    rw [← HL.out, List.getElem?_map, List.getElem?_eq_getElem hKL, hrow]
    rfl
  have HJ0 := Lib.hid (HSP.out O K T hPT (by omega))
  have HS0 : Hid (Sts w (some ad) n1 c1 (L.set K ⟨some ⟨g, 0, none⟩, W, rc, T⟩) w1) := Lib.hid (by rw [hset0]; exact HST.out)
  have HTW := Lib.hid hTW
  have hWI : ¬ (W : Int) < 11 := by omega
  have HR := Lib.hid hKL
  clear hset0 hPT hTW hrow hW HRE HRN hrT hcell HST HSP hsh hlt1 hlt2 hK hKL
  go_upto_region 9 with fail
  go_cut [14] (fun k wx => k = .int .i64 ((7 + O : Nat) : Int) ∧ wx = w1)
  case first =>
    have hO' := hO.out
    clear hO HS0 HB1
    go_wp2_with fail
    all_goals (go_meet; exact ⟨int_eq (by omega), rfl⟩)
  case rest =>
  obtain ⟨rfl, hwx⟩ := hcut
  replace hwx := hwx.symm
  subst hwx
  clear hcell2 hO
  obtain ⟨at_, hat⟩ : ∃ at_, 7 + O = at_ := ⟨_, rfl⟩
  rw [hat] at HJ0 ⊢
  have hatW : at_ + 4 ≤ W := by omega
  clear hat hOW
  go_wp2
  go_loopw [15] (fun i wr => ∃ k : Nat, k ≤ 4 ∧ i = .int .i64 k ∧ Hid (Below w.heap.size w wr) ∧ Hid (Sts w (some ad) n1 c1 (L.set K ⟨some ⟨g, 0, none⟩, W, rc, Crc.chg T at_ (Num.leB mm 4) k⟩) wr)) (fun i _ => 4 - (intOf i).toNat)
  case atStart => exact ⟨0, Nat.zero_le _, rfl, HB1, HS0⟩
  case round =>
    clear HB1 HS0 hab
    obtain ⟨k, hk, rfl, hb, hs⟩ := hrel
    by_cases hlt : k < 4
    · have hkl : K < L.length := HR.out
      obtain ⟨hab, hgb, hc0, hcb, hfr, hset⟩ := hs.out.put (spot := at_ + k) hkl (by rw [Crc.chg_length]; exact HTW.out) (by omega)
      have hnext : Hid (Crc.chg T at_ (Num.leB mm 4) (k + 1) = (Crc.chg T at_ (Num.leB mm 4) k).set (at_ + k) ((Crc.chg T at_ (Num.leB mm 4) k).getD (at_ + k) 0 ^^^ UInt8.ofNat (mm / 256 ^ k))) := by
        unfold Hid
        rw [Crc.chg, Frm.mask_byte mm k hlt]
      generalize (Crc.chg T at_ (Num.leB mm 4) k).getD (at_ + k) 0 = x at *
      have hval := u8_byte_xor x (mm / 256 ^ k)
      obtain ⟨z, hz⟩ : ∃ z, Hid (x ^^^ UInt8.ofNat (mm / 256 ^ k) = z) := ⟨_, rfl⟩
      rw [hz.out] at hval hnext
      have HST1 : Hid (Sts w (some ad) n1 c1 (L.set K ⟨some ⟨g, 0, none⟩, W, rc, Crc.chg T at_ (Num.leB mm 4) (k + 1)⟩) (wr.setCell ⟨g, at_ + k, none⟩ (.int .u8 (z.toNat : Int))).drew) := by
        rw [hnext.out]
        exact hset z 1
      have hd4 : (wr.setCell ⟨g, at_ + k, none⟩ (.int .u8 (z.toNat : Int))).drew.cell? (ad.add K) = some (.slice (some ⟨g, 0, none⟩) W rc) := HST1.out.cell (at_ := K) (by rw [List.length_set]; exact hkl) (List.getElem_set_self _)
      have HB2 : Hid (Below w.heap.size w (wr.setCell ⟨g, at_ + k, none⟩ (.int .u8 (z.toNat : Int))).drew) := Lib.hid HST1.out.below
      have hd1 : wr.drew.cell? (ad.add K) = some (.slice (some ⟨g, 0, none⟩) W rc) := hc0
      have hd2 : wr.drew.cell? ⟨g, at_ + k, none⟩ = some (.int .u8 (x.toNat : Int)) := hcb
      have hd3 : wr.drew.frozen? ⟨g, at_ + k, none⟩ = false := hfr
      have HE1 := Lib.hid hab
      have HE2 := Lib.hid hgb
      have hKI : (K : Int) < (n1 : Int) := by omega
      clear hset hc0 hcb hfr hab hgb hkl hnext hz hb hs
      have : k = 0 ∨ k = 1 ∨ k = 2 ∨ k = 3 := by omega
      rcases this with rfl | rfl | rfl | rfl
      · simp only [Nat.pow_zero, Nat.div_one] at hval
        have hj1 : (at_ : Int) < (W : Int) := by omega
        have hj2 : IntKind.i64.wrap (at_ : Int) = (at_ : Int) := by rw [IntKind.wrap_i64] <;> omega
        simp only [Nat.add_zero] at hd2 hd3 hd4 HST1 HB2
        have hs1 : IntKind.i64.wrap 0 = 0 := by decide
        have hs2 : IntKind.u64.wrap 0 = 0 := by decide
        have hs3 : IntKind.u8.wrap (mm : Int) = (mm : Int) % 256 := rfl
        go_upto_region 13 with fail
        refine wp_region_held_drew (S := (fun wQq => wQq.cell? (ad.add K) = some (.slice (some ⟨g, 0, none⟩) W rc))) (by kernel_rfl) (hd1) (fun _ => ?_)
        refine wpAnyH_take (i := 0) (v := ?_) rfl (by kernel_rfl) (by kernel_rfl) (by kernel_rfl) (fun _ _ _ h => h) (Or.inl ⟨by rfl, ?_⟩) (hd1) ?_
        rotate_left
        · intro wS hSw
          go_simp
          try with_reducible rfl
        try simp only [List.getElem_toArray, List.getElem_cons_zero, List.getElem_cons_succ, Act.put, List.setIfInBounds_toArray, List.set_cons_zero, List.set_cons_succ]
        refine wpAnyH_take (i := 1) (v := ?_) rfl (by kernel_rfl) (by kernel_rfl) (by kernel_rfl) (fun _ _ _ h => h) (Or.inl ⟨by rfl, ?_⟩) (hd1) ?_
        rotate_left
        · intro wS hSw
          go_simp
          try with_reducible rfl
        try simp only [List.getElem_toArray, List.getElem_cons_zero, List.getElem_cons_succ, Act.put, List.setIfInBounds_toArray, List.set_cons_zero, List.set_cons_succ]
        refine wpAnyH_take (i := 2) (v := ?_) rfl (by kernel_rfl) (by kernel_rfl) (by kernel_rfl) (fun _ _ _ h => h) (Or.inl ⟨by rfl, ?_⟩) (hd1) ?_
        rotate_left
        · intro wS hSw
          go_simp
          try with_reducible rfl
        try simp only [List.getElem_toArray, List.getElem_cons_zero, List.getElem_cons_succ, Act.put, List.setIfInBounds_toArray, List.set_cons_zero, List.set_cons_succ]
        refine wpAnyH_take (i := 4) (v := ?_) rfl (by kernel_rfl) (by kernel_rfl) (by kernel_rfl) (fun _ _ _ h => h) (Or.inl ⟨by rfl, ?_⟩) (hd1) ?_
        rotate_left
        · intro wS hSw
          go_simp
          try with_reducible rfl
        try simp only [List.getElem_toArray, List.getElem_cons_zero, List.getElem_cons_succ, Act.put, List.setIfInBounds_toArray, List.set_cons_zero, List.set_cons_succ]
        refine wpAnyH_take (i := 5) (v := ?_) rfl (by kernel_rfl) (by kernel_rfl) (by kernel_rfl) (fun _ _ _ h => h) (Or.inl ⟨by rfl, ?_⟩) (hd1) ?_
        rotate_left
        · intro wS hSw
          go_simp
          try with_reducible rfl
        try simp only [List.getElem_toArray, List.getElem_cons_zero, List.getElem_cons_succ, Act.put, List.setIfInBounds_toArray, List.set_cons_zero, List.set_cons_succ]
        refine wpAnyH_take (i := 6) (v := ?_) rfl (by kernel_rfl) (by kernel_rfl) (by kernel_rfl) (fun _ _ _ h => h) (Or.inl ⟨by rfl, ?_⟩) (hd1) ?_
        rotate_left
        · intro wS hSw
          go_simp
          try with_reducible rfl
        try simp only [List.getElem_toArray, List.getElem_cons_zero, List.getElem_cons_succ, Act.put, List.setIfInBounds_toArray, List.set_cons_zero, List.set_cons_succ]
        refine wpAnyH_take (i := 7) (v := ?_) rfl (by kernel_rfl) (by kernel_rfl) (by kernel_rfl) (fun _ _ _ h => h) (Or.inl ⟨by rfl, ?_⟩) (hd1) ?_
        rotate_left
        · intro wS hSw
          go_simp
          try with_reducible rfl
        try simp only [List.getElem_toArray, List.getElem_cons_zero, List.getElem_cons_succ, Act.put, List.setIfInBounds_toArray, List.set_cons_zero, List.set_cons_succ]
        refine wpAnyH_take (i := 8) (v := ?_) rfl (by kernel_rfl) (by kernel_rfl) (by kernel_rfl) (fun _ _ _ h => h) (Or.inl ⟨by rfl, ?_⟩) (hd1) ?_
        rotate_left
        · intro wS hSw
          go_simp
          try with_reducible rfl
        try simp only [List.getElem_toArray, List.getElem_cons_zero, List.getElem_cons_succ, Act.put, List.setIfInBounds_toArray, List.set_cons_zero, List.set_cons_succ]
        refine wpAnyH_take (i := 9) (v := ?_) rfl (by kernel_rfl) (by kernel_rfl) (by kernel_rfl) (fun _ _ _ h => h) (Or.inl ⟨by rfl, ?_⟩) (hd1) ?_
        rotate_left
        · intro wS hSw
          go_simp
          try with_reducible rfl
        try simp only [List.getElem_toArray, List.getElem_cons_zero, List.getElem_cons_succ, Act.put, List.setIfInBounds_toArray, List.set_cons_zero, List.set_cons_succ]
        refine wpAnyH_take (i := 11) (v := ?_) rfl (by kernel_rfl) (by kernel_rfl) (by kernel_rfl) (fun _ _ _ h => h) (Or.inl ⟨by rfl, ?_⟩) (hd1) ?_
        rotate_left
        · intro wS hSw
          go_simp
          try with_reducible rfl
        try simp only [List.getElem_toArray, List.getElem_cons_zero, List.getElem_cons_succ, Act.put, List.setIfInBounds_toArray, List.set_cons_zero, List.set_cons_succ]
        refine wpAnyH_take (i := 12) (v := ?_) rfl (by kernel_rfl) (by kernel_rfl) (by kernel_rfl) (fun _ _ _ h => h) (Or.inl ⟨by rfl, ?_⟩) (hd1) ?_
        rotate_left
        · intro wS hSw
          go_simp
          try with_reducible rfl
        try simp only [List.getElem_toArray, List.getElem_cons_zero, List.getElem_cons_succ, Act.put, List.setIfInBounds_toArray, List.set_cons_zero, List.set_cons_succ]
        refine wpAnyH_take (i := 13) (v := ?_) rfl (by kernel_rfl) (by kernel_rfl) (by kernel_rfl) (fun _ _ _ h => h) (Or.inl ⟨by rfl, ?_⟩) (hd1) ?_
        rotate_left
        · intro wS hSw
          go_simp
          try with_reducible rfl
        try simp only [List.getElem_toArray, List.getElem_cons_zero, List.getElem_cons_succ, Act.put, List.setIfInBounds_toArray, List.set_cons_zero, List.set_cons_succ]
        refine wpAnyH_take (i := 16) (v := ?_) rfl (by kernel_rfl) (by kernel_rfl) (by kernel_rfl) (fun _ _ _ h => h) (Or.inl ⟨by rfl, ?_⟩) (hd1) ?_
        rotate_left
        · intro wS hSw
          go_simp
          try with_reducible rfl
        try simp only [List.getElem_toArray, List.getElem_cons_zero, List.getElem_cons_succ, Act.put, List.setIfInBounds_toArray, List.set_cons_zero, List.set_cons_succ]
        refine wpAnyH_take (i := 17) (v := ?_) rfl (by kernel_rfl) (by kernel_rfl) (by kernel_rfl) (fun _ _ _ h => h) (Or.inl ⟨by rfl, ?_⟩) (hd1) ?_
        rotate_left
        · intro wS hSw
          go_simp
          try with_reducible rfl
        try simp only [List.getElem_toArray, List.getElem_cons_zero, List.getElem_cons_succ, Act.put, List.setIfInBounds_toArray, List.set_cons_zero, List.set_cons_succ]
        refine wpAnyH_take (i := 18) (v := ?_) rfl (by kernel_rfl) (by kernel_rfl) (by kernel_rfl) (fun _ _ _ h => h) (Or.inl ⟨by rfl, ?_⟩) (hd1) ?_
        rotate_left
        · intro wS hSw
          go_simp
          try with_reducible rfl
        try simp only [List.getElem_toArray, List.getElem_cons_zero, List.getElem_cons_succ, Act.put, List.setIfInBounds_toArray, List.set_cons_zero, List.set_cons_succ]
        refine wpAnyH_take (i := 3) (v := ?_) rfl (by kernel_rfl) (by kernel_rfl) (by kernel_rfl) (fun _ _ _ h => h) (Or.inl ⟨by rfl, ?_⟩) (hd1) ?_
        rotate_left
        · intro wS hSw
          have hcv := hSw
          go_simp
          try with_reducible rfl
        try simp only [List.getElem_toArray, List.getElem_cons_zero, List.getElem_cons_succ, Act.put, List.setIfInBounds_toArray, List.set_cons_zero, List.set_cons_succ]
        refine wpAnyH_take (i := 10) (v := ?_) rfl (by kernel_rfl) (by kernel_rfl) (by kernel_rfl) (fun _ _ _ h => h) (Or.inl ⟨by rfl, ?_⟩) (hd1) ?_
        rotate_left
        · intro wS hSw
          have hcv := hSw
          go_simp
          try with_reducible rfl
        try simp only [List.getElem_toArray, List.getElem_cons_zero, List.getElem_cons_succ, Act.put, List.setIfInBounds_toArray, List.set_cons_zero, List.set_cons_succ]
        refine wpAnyH_take (i := 14) (v := ?_) rfl (by kernel_rfl) (by kernel_rfl) (by kernel_rfl) (fun _ _ _ h => h) (Or.inl ⟨by rfl, ?_⟩) (hd1) ?_
        rotate_left
        · intro wS hSw
          go_simp
          try with_reducible rfl
        try simp only [List.getElem_toArray, List.getElem_cons_zero, List.getElem_cons_succ, Act.put, List.setIfInBounds_toArray, List.set_cons_zero, List.set_cons_succ]
        refine wpAnyH_take (i := 19) (v := ?_) rfl (by kernel_rfl) (by kernel_rfl) (by kernel_rfl) (fun _ _ _ h => h) (Or.inl ⟨by rfl, ?_⟩) (hd1) ?_
        rotate_left
        · intro wS hSw
          have hcv := trivial
          go_simp
          try with_reducible rfl
        try simp only [List.getElem_toArray, List.getElem_cons_zero, List.getElem_cons_succ, Act.put, List.setIfInBounds_toArray, List.set_cons_zero, List.set_cons_succ]
        refine wpAnyH_take (i := 20) (v := ?_) rfl (by kernel_rfl) (by kernel_rfl) (by kernel_rfl) (fun _ _ _ h => h) (Or.inl ⟨by rfl, ?_⟩) (hd1) ?_
        rotate_left
        · intro wS hSw
          go_simp
          try with_reducible rfl
        try simp only [List.getElem_toArray, List.getElem_cons_zero, List.getElem_cons_succ, Act.put, List.setIfInBounds_toArray, List.set_cons_zero, List.set_cons_succ]
        refine wpAnyH_take (i := 21) (v := ?_) rfl (by kernel_rfl) (by kernel_rfl) (by kernel_rfl) (fun _ _ _ h => h) (Or.inl ⟨by rfl, ?_⟩) (hd1) ?_
        rotate_left
        · intro wS hSw
          have hcv := trivial
          go_simp
          try with_reducible rfl
        try simp only [List.getElem_toArray, List.getElem_cons_zero, List.getElem_cons_succ, Act.put, List.setIfInBounds_toArray, List.set_cons_zero, List.set_cons_succ]
        refine wpAnyH_ready (rs := [15]) (by kernel_rfl) (by simp) ?_
        refine AllReadyH.cons rfl (fun K hK => ?_) AllReadyH.nil
        go_simp
        refine hK.out _ _ hd1 (fun _ => ?_)
        clear hK K
        try simp only [List.getElem_toArray, List.getElem_cons_zero, List.getElem_cons_succ, Act.put, List.setIfInBounds_toArray, List.set_cons_zero, List.set_cons_succ]
        refine wpAnyH_take (i := 22) (v := ?_) rfl (by kernel_rfl) (by kernel_rfl) (by kernel_rfl) (fun _ _ _ h => h) (Or.inl ⟨by rfl, ?_⟩) hd1 ?_
        rotate_left
        · intro wS hSw
          go_simp
          try with_reducible rfl
        try simp only [List.getElem_toArray, List.getElem_cons_zero, List.getElem_cons_succ, Act.put, List.setIfInBounds_toArray, List.set_cons_zero, List.set_cons_succ]
        refine wpAnyH_take (i := 23) (v := ?_) rfl (by kernel_rfl) (by kernel_rfl) (by kernel_rfl) (fun _ _ _ h => h) (Or.inl ⟨by rfl, ?_⟩) hd1 ?_
        rotate_left
        · intro wS hSw
          go_simp
          try with_reducible rfl
        try simp only [List.getElem_toArray, List.getElem_cons_zero, List.getElem_cons_succ, Act.put, List.setIfInBounds_toArray, List.set_cons_zero, List.set_cons_succ]
        refine wpAnyH_ready (rs := [24]) (by kernel_rfl) (by simp) ?_
        refine AllReadyH.cons rfl (fun K hK => ?_) AllReadyH.nil
        go_simp
        refine hK.out _ _ hd4 (fun _ => ?_)
        clear hK K
        try simp only [List.getElem_toArray, List.getElem_cons_zero, List.getElem_cons_succ, Act.put, List.setIfInBounds_toArray, List.set_cons_zero, List.set_cons_succ]
        refine wpAnyH_done (by kernel_rfl) ?_ _
        clear hd1 hd2 hd3 hd4
        generalize (wr.setCell ⟨g, at_, none⟩ (.int .u8 (z.toNat : Int))).drew = w2 at *
        clear hval HE1 HE2 hj1 hj2 hs1 hs2 hs3
        go_wp2
        go_roundw
        case rel => exact ⟨1, by omega, by go_num, HB2, HST1⟩
        case measure => simp [intOf]
      · simp only [Nat.pow_one, Int.natCast_ediv, Int.cast_ofNat_Int] at hval
        have hj1 : (at_ : Int) + 1 < (W : Int) := by omega
        have hj2 : IntKind.i64.wrap ((at_ : Int) + 1) = (at_ : Int) + 1 := by rw [IntKind.wrap_i64] <;> omega
        have hj3 : ((at_ : Int) + 1).toNat = at_ + 1 := by omega
        have hj4 : 0 ≤ (at_ : Int) + 1 := by omega
        have hs1 : IntKind.i64.wrap 8 = 8 := by decide
        have hs2 : IntKind.u64.wrap 8 = 8 := by decide
        have hs3 : IntKind.u8.wrap ((mm : Int) / 256) = (mm : Int) / 256 % 256 := rfl
        go_upto_region 13 with fail
        refine wp_region_held_drew (S := (fun wQq => wQq.cell? (ad.add K) = some (.slice (some ⟨g, 0, none⟩) W rc))) (by kernel_rfl) (hd1) (fun _ => ?_)
        refine wpAnyH_take (i := 0) (v := ?_) rfl (by kernel_rfl) (by kernel_rfl) (by kernel_rfl) (fun _ _ _ h => h) (Or.inl ⟨by rfl, ?_⟩) (hd1) ?_
        rotate_left
        · intro wS hSw
          go_simp
          try with_reducible rfl
        try simp only [List.getElem_toArray, List.getElem_cons_zero, List.getElem_cons_succ, Act.put, List.setIfInBounds_toArray, List.set_cons_zero, List.set_cons_succ]
        refine wpAnyH_take (i := 1) (v := ?_) rfl (by kernel_rfl) (by kernel_rfl) (by kernel_rfl) (fun _ _ _ h => h) (Or.inl ⟨by rfl, ?_⟩) (hd1) ?_
        rotate_left
        · intro wS hSw
          go_simp
          try with_reducible rfl
        try simp only [List.getElem_toArray, List.getElem_cons_zero, List.getElem_cons_succ, Act.put, List.setIfInBounds_toArray, List.set_cons_zero, List.set_cons_succ]
        refine wpAnyH_take (i := 2) (v := ?_) rfl (by kernel_rfl) (by kernel_rfl) (by kernel_rfl) (fun _ _ _ h => h) (Or.inl ⟨by rfl, ?_⟩) (hd1) ?_
        rotate_left
        · intro wS hSw
          go_simp
          try with_reducible rfl
        try simp only [List.getElem_toArray, List.getElem_cons_zero, List.getElem_cons_succ, Act.put, List.setIfInBounds_toArray, List.set_cons_zero, List.set_cons_succ]
        refine wpAnyH_take (i := 4) (v := ?_) rfl (by kernel_rfl) (by kernel_rfl) (by kernel_rfl) (fun _ _ _ h => h) (Or.inl ⟨by rfl, ?_⟩) (hd1) ?_
        rotate_left
        · intro wS hSw
          go_simp
          try with_reducible rfl
        try simp only [List.getElem_toArray, List.getElem_cons_zero, List.getElem_cons_succ, Act.put, List.setIfInBounds_toArray, List.set_cons_zero, List.set_cons_succ]
        refine wpAnyH_take (i := 5) (v := ?_) rfl (by kernel_rfl) (by kernel_rfl) (by kernel_rfl) (fun _ _ _ h => h) (Or.inl ⟨by rfl, ?_⟩) (hd1) ?_
        rotate_left
        · intro wS hSw
          go_simp
          try with_reducible rfl
        try simp only [List.getElem_toArray, List.getElem_cons_zero, List.getElem_cons_succ, Act.put, List.setIfInBounds_toArray, List.set_cons_zero, List.set_cons_succ]
        refine wpAnyH_take (i := 6) (v := ?_) rfl (by kernel_rfl) (by kernel_rfl) (by kernel_rfl) (fun _ _ _ h => h) (Or.inl ⟨by rfl, ?_⟩) (hd1) ?_
        rotate_left
        · intro wS hSw
          go_simp
          try with_reducible rfl
        try simp only [List.getElem_toArray, List.getElem_cons_zero, List.getElem_cons_succ, Act.put, List.setIfInBounds_toArray, List.set_cons_zero, List.set_cons_succ]
        refine wpAnyH_take (i := 7) (v := ?_) rfl (by kernel_rfl) (by kernel_rfl) (by kernel_rfl) (fun _ _ _ h => h) (Or.inl ⟨by rfl, ?_⟩) (hd1) ?_
        rotate_left
        · intro wS hSw
          go_simp
          try with_reducible rfl
        try simp only [List.getElem_toArray, List.getElem_cons_zero, List.getElem_cons_succ, Act.put, List.setIfInBounds_toArray, List.set_cons_zero, List.set_cons_succ]
        refine wpAnyH_take (i := 8) (v := ?_) rfl (by kernel_rfl) (by kernel_rfl) (by kernel_rfl) (fun _ _ _ h => h) (Or.inl ⟨by rfl, ?_⟩) (hd1) ?_
        rotate_left
        · intro wS hSw
          go_simp
          try with_reducible rfl
        try simp only [List.getElem_toArray, List.getElem_cons_zero, List.getElem_cons_succ, Act.put, List.setIfInBounds_toArray, List.set_cons_zero, List.set_cons_succ]
        refine wpAnyH_take (i := 9) (v := ?_) rfl (by kernel_rfl) (by kernel_rfl) (by kernel_rfl) (fun _ _ _ h => h) (Or.inl ⟨by rfl, ?_⟩) (hd1) ?_
        rotate_left
        · intro wS hSw
          go_simp
          try with_reducible rfl
        try simp only [List.getElem_toArray, List.getElem_cons_zero, List.getElem_cons_succ, Act.put, List.setIfInBounds_toArray, List.set_cons_zero, List.set_cons_succ]
        refine wpAnyH_take (i := 11) (v := ?_) rfl (by kernel_rfl) (by kernel_rfl) (by kernel_rfl) (fun _ _ _ h => h) (Or.inl ⟨by rfl, ?_⟩) (hd1) ?_
        rotate_left
        · intro wS hSw
          go_simp
          try with_reducible rfl
        try simp only [List.getElem_toArray, List.getElem_cons_zero, List.getElem_cons_succ, Act.put, List.setIfInBounds_toArray, List.set_cons_zero, List.set_cons_succ]
        refine wpAnyH_take (i := 12) (v := ?_) rfl (by kernel_rfl) (by kernel_rfl) (by kernel_rfl) (fun _ _ _ h => h) (Or.inl ⟨by rfl, ?_⟩) (hd1) ?_
        rotate_left
        · intro wS hSw
          go_simp
          try with_reducible rfl
        try simp only [List.getElem_toArray, List.getElem_cons_zero, List.getElem_cons_succ, Act.put, List.setIfInBounds_toArray, List.set_cons_zero, List.set_cons_succ]
        refine wpAnyH_take (i := 13) (v := ?_) rfl (by kernel_rfl) (by kernel_rfl) (by kernel_rfl) (fun _ _ _ h => h) (Or.inl ⟨by rfl, ?_⟩) (hd1) ?_
        rotate_left
        · intro wS hSw
          go_simp
          try with_reducible rfl
        try simp only [List.getElem_toArray, List.getElem_cons_zero, List.getElem_cons_succ, Act.put, List.setIfInBounds_toArray, List.set_cons_zero, List.set_cons_succ]
        refine wpAnyH_take (i := 16) (v := ?_) rfl (by kernel_rfl) (by kernel_rfl) (by kernel_rfl) (fun _ _ _ h => h) (Or.inl ⟨by rfl, ?_⟩) (hd1) ?_
        rotate_left
        · intro wS hSw
          go_simp
          try with_reducible rfl
        try simp only [List.getElem_toArray, List.getElem_cons_zero, List.getElem_cons_succ, Act.put, List.setIfInBounds_toArray, List.set_cons_zero, List.set_cons_succ]
        refine wpAnyH_take (i := 17) (v := ?_) rfl (by kernel_rfl) (by kernel_rfl) (by kernel_rfl) (fun _ _ _ h => h) (Or.inl ⟨by rfl, ?_⟩) (hd1) ?_
        rotate_left
        · intro wS hSw
          go_simp
          try with_reducible rfl
        try simp only [List.getElem_toArray, List.getElem_cons_zero, List.getElem_cons_succ, Act.put, List.setIfInBounds_toArray, List.set_cons_zero, List.set_cons_succ]
        refine wpAnyH_take (i := 18) (v := ?_) rfl (by kernel_rfl) (by kernel_rfl) (by kernel_rfl) (fun _ _ _ h => h) (Or.inl ⟨by rfl, ?_⟩) (hd1) ?_
        rotate_left
        · intro wS hSw
          go_simp
          try with_reducible rfl
        try simp only [List.getElem_toArray, List.getElem_cons_zero, List.getElem_cons_succ, Act.put, List.setIfInBounds_toArray, List.set_cons_zero, List.set_cons_succ]
        refine wpAnyH_take (i := 3) (v := ?_) rfl (by kernel_rfl) (by kernel_rfl) (by kernel_rfl) (fun _ _ _ h => h) (Or.inl ⟨by rfl, ?_⟩) (hd1) ?_
        rotate_left
        · intro wS hSw
          have hcv := hSw
          go_simp
          try with_reducible rfl
        try simp only [List.getElem_toArray, List.getElem_cons_zero, List.getElem_cons_succ, Act.put, List.setIfInBounds_toArray, List.set_cons_zero, List.set_cons_succ]
        refine wpAnyH_take (i := 10) (v := ?_) rfl (by kernel_rfl) (by kernel_rfl) (by kernel_rfl) (fun _ _ _ h => h) (Or.inl ⟨by rfl, ?_⟩) (hd1) ?_
        rotate_left
        · intro wS hSw
          have hcv := hSw
          go_simp
          try with_reducible rfl
        try simp only [List.getElem_toArray, List.getElem_cons_zero, List.getElem_cons_succ, Act.put, List.setIfInBounds_toArray, List.set_cons_zero, List.set_cons_succ]
        refine wpAnyH_take (i := 14) (v := ?_) rfl (by kernel_rfl) (by kernel_rfl) (by kernel_rfl) (fun _ _ _ h => h) (Or.inl ⟨by rfl, ?_⟩) (hd1) ?_
        rotate_left
        · intro wS hSw
          go_simp
          try with_reducible rfl
        try simp only [List.getElem_toArray, List.getElem_cons_zero, List.getElem_cons_succ, Act.put, List.setIfInBounds_toArray, List.set_cons_zero, List.set_cons_succ]
        refine wpAnyH_take (i := 19) (v := ?_) rfl (by kernel_rfl) (by kernel_rfl) (by kernel_rfl) (fun _ _ _ h => h) (Or.inl ⟨by rfl, ?_⟩) (hd1) ?_
        rotate_left
        · intro wS hSw
          have hcv := trivial
          go_simp
          try with_reducible rfl
        try simp only [List.getElem_toArray, List.getElem_cons_zero, List.getElem_cons_succ, Act.put, List.setIfInBounds_toArray, List.set_cons_zero, List.set_cons_succ]
        refine wpAnyH_take (i := 20) (v := ?_) rfl (by kernel_rfl) (by kernel_rfl) (by kernel_rfl) (fun _ _ _ h => h) (Or.inl ⟨by rfl, ?_⟩) (hd1) ?_
        rotate_left
        · intro wS hSw
          go_simp
          try with_reducible rfl
        try simp only [List.getElem_toArray, List.getElem_cons_zero, List.getElem_cons_succ, Act.put, List.setIfInBounds_toArray, List.set_cons_zero, List.set_cons_succ]
        refine wpAnyH_take (i := 21) (v := ?_) rfl (by kernel_rfl) (by kernel_rfl) (by kernel_rfl) (fun _ _ _ h => h) (Or.inl ⟨by rfl, ?_⟩) (hd1) ?_
        rotate_left
        · intro wS hSw
          have hcv := trivial
          go_simp
          try with_reducible rfl
        try simp only [List.getElem_toArray, List.getElem_cons_zero, List.getElem_cons_succ, Act.put, List.setIfInBounds_toArray, List.set_cons_zero, List.set_cons_succ]
        refine wpAnyH_ready (rs := [15]) (by kernel_rfl) (by simp) ?_
        refine AllReadyH.cons rfl (fun K hK => ?_) AllReadyH.nil
        go_simp
        refine hK.out _ _ hd1 (fun _ => ?_)
        clear hK K
        try simp only [List.getElem_toArray, List.getElem_cons_zero, List.getElem_cons_succ, Act.put, List.setIfInBounds_toArray, List.set_cons_zero, List.set_cons_succ]
        refine wpAnyH_take (i := 22) (v := ?_) rfl (by kernel_rfl) (by kernel_rfl) (by kernel_rfl) (fun _ _ _ h => h) (Or.inl ⟨by rfl, ?_⟩) hd1 ?_
        rotate_left
        · intro wS hSw
          go_simp
          try with_reducible rfl
        try simp only [List.getElem_toArray, List.getElem_cons_zero, List.getElem_cons_succ, Act.put, List.setIfInBounds_toArray, List.set_cons_zero, List.set_cons_succ]
        refine wpAnyH_take (i := 23) (v := ?_) rfl (by kernel_rfl) (by kernel_rfl) (by kernel_rfl) (fun _ _ _ h => h) (Or.inl ⟨by rfl, ?_⟩) hd1 ?_
        rotate_left
        · intro wS hSw
          go_simp
          try with_reducible rfl
        try simp only [List.getElem_toArray, List.getElem_cons_zero, List.getElem_cons_succ, Act.put, List.setIfInBounds_toArray, List.set_cons_zero, List.set_cons_succ]
        refine wpAnyH_ready (rs := [24]) (by kernel_rfl) (by simp) ?_
        refine AllReadyH.cons rfl (fun K hK => ?_) AllReadyH.nil
        go_simp
        refine hK.out _ _ hd4 (fun _ => ?_)
        clear hK K
        try simp only [List.getElem_toArray, List.getElem_cons_zero, List.getElem_cons_succ, Act.put, List.setIfInBounds_toArray, List.set_cons_zero, List.set_cons_succ]
        refine wpAnyH_done (by kernel_rfl) ?_ _
        clear hd1 hd2 hd3 hd4
        generalize (wr.setCell ⟨g, at_ + 1, none⟩ (.int .u8 (z.toNat : Int))).drew = w2 at *
        clear hval HE1 HE2 hj1 hj2 hj3 hj4 hs1 hs2 hs3
        go_wp2
        go_roundw
        case rel => exact ⟨2, by omega, by go_num, HB2, HST1⟩
        case measure => simp [intOf]
      · simp only [Nat.reducePow, Int.natCast_ediv, Int.cast_ofNat_Int] at hval
        have hj1 : (at_ : Int) + 2 < (W : Int) := by omega
        have hj2 : IntKind.i64.wrap ((at_ : Int) + 2) = (at_ : Int) + 2 := by rw [IntKind.wrap_i64] <;> omega
        have hj3 : ((at_ : Int) + 2).toNat = at_ + 2 := by omega
        have hj4 : 0 ≤ (at_ : Int) + 2 := by omega
        have hs1 : IntKind.i64.wrap 16 = 16 := by decide
        have hs2 : IntKind.u64.wrap 16 = 16 := by decide
        have hs3 : IntKind.u8.wrap ((mm : Int) / 65536) = (mm : Int) / 65536 % 256 := rfl
        go_upto_region 13 with fail
        refine wp_region_held_drew (S := (fun wQq => wQq.cell? (ad.add K) = some (.slice (some ⟨g, 0, none⟩) W rc))) (by kernel_rfl) (hd1) (fun _ => ?_)
        refine wpAnyH_take (i := 0) (v := ?_) rfl (by kernel_rfl) (by kernel_rfl) (by kernel_rfl) (fun _ _ _ h => h) (Or.inl ⟨by rfl, ?_⟩) (hd1) ?_
        rotate_left
        · intro wS hSw
          go_simp
          try with_reducible rfl
        try simp only [List.getElem_toArray, List.getElem_cons_zero, List.getElem_cons_succ, Act.put, List.setIfInBounds_toArray, List.set_cons_zero, List.set_cons_succ]
        refine wpAnyH_take (i := 1) (v := ?_) rfl (by kernel_rfl) (by kernel_rfl) (by kernel_rfl) (fun _ _ _ h => h) (Or.inl ⟨by rfl, ?_⟩) (hd1) ?_
        rotate_left
        · intro wS hSw
          go_simp
          try with_reducible rfl
        try simp only [List.getElem_toArray, List.getElem_cons_zero, List.getElem_cons_succ, Act.put, List.setIfInBounds_toArray, List.set_cons_zero, List.set_cons_succ]
        refine wpAnyH_take (i := 2) (v := ?_) rfl (by kernel_rfl) (by kernel_rfl) (by kernel_rfl) (fun _ _ _ h => h) (Or.inl ⟨by rfl, ?_⟩) (hd1) ?_
        rotate_left
        · intro wS hSw
          go_simp
          try with_reducible rfl
        try simp only [List.getElem_toArray, List.getElem_cons_zero, List.getElem_cons_succ, Act.put, List.setIfInBounds_toArray, List.set_cons_zero, List.set_cons_succ]
        refine wpAnyH_take (i := 4) (v := ?_) rfl (by kernel_rfl) (by kernel_rfl) (by kernel_rfl) (fun _ _ _ h => h) (Or.inl ⟨by rfl, ?_⟩) (hd1) ?_
        rotate_left
        · intro wS hSw
          go_simp
          try with_reducible rfl
        try simp only [List.getElem_toArray, List.getElem_cons_zero, List.getElem_cons_succ, Act.put, List.setIfInBounds_toArray, List.set_cons_zero, List.set_cons_succ]
        refine wpAnyH_take (i := 5) (v := ?_) rfl (by kernel_rfl) (by kernel_rfl) (by kernel_rfl) (fun _ _ _ h => h) (Or.inl ⟨by rfl, ?_⟩) (hd1) ?_
        rotate_left
        · intro wS hSw
          go_simp
          try with_reducible rfl
        try simp only [List.getElem_toArray, List.getElem_cons_zero, List.getElem_cons_succ, Act.put, List.setIfInBounds_toArray, List.set_cons_zero, List.set_cons_succ]
        refine wpAnyH_take (i := 6) (v := ?_) rfl (by kernel_rfl) (by kernel_rfl) (by kernel_rfl) (fun _ _ _ h => h) (Or.inl ⟨by rfl, ?_⟩) (hd1) ?_
        rotate_left
        · intro wS hSw
          go_simp
          try with_reducible rfl
        try simp only [List.getElem_toArray, List.getElem_cons_zero, List.getElem_cons_succ, Act.put, List.setIfInBounds_toArray, List.set_cons_zero, List.set_cons_succ]
        refine wpAnyH_take (i := 7) (v := ?_) rfl (by kernel_rfl) (by kernel_rfl) (by kernel_rfl) (fun _ _ _ h => h) (Or.inl ⟨by rfl, ?_⟩) (hd1) ?_
        rotate_left
        · intro wS hSw
          go_simp
          try with_reducible rfl
        try simp only [List.getElem_toArray, List.getElem_cons_zero, List.getElem_cons_succ, Act.put, List.setIfInBounds_toArray, List.set_cons_zero, List.set_cons_succ]
        refine wpAnyH_take (i := 8) (v := ?_) rfl (by kernel_rfl) (by kernel_rfl) (by kernel_rfl) (fun _ _ _ h => h) (Or.inl ⟨by rfl, ?_⟩) (hd1) ?_
        rotate_left
        · intro wS hSw
          go_simp
          try with_reducible rfl
        try simp only [List.getElem_toArray, List.getElem_cons_zero, List.getElem_cons_succ, Act.put, List.setIfInBounds_toArray, List.set_cons_zero, List.set_cons_succ]
        refine wpAnyH_take (i := 9) (v := ?_) rfl (by kernel_rfl) (by kernel_rfl) (by kernel_rfl) (fun _ _ _ h => h) (Or.inl ⟨by rfl, ?_⟩) (hd1) ?_
        rotate_left
        · intro wS hSw
          go_simp
          try with_reducible rfl
        try simp only [List.getElem_toArray, List.getElem_cons_zero, List.getElem_cons_succ, Act.put, List.setIfInBounds_toArray, List.set_cons_zero, List.set_cons_succ]
        refine wpAnyH_take (i := 11) (v := ?_) rfl (by kernel_rfl) (by kernel_rfl) (by kernel_rfl) (fun _ _ _ h => h) (Or.inl ⟨by rfl, ?_⟩) (hd1) ?_
        rotate_left
        · intro wS hSw
          go_simp
          try with_reducible rfl
        try simp only [List.getElem_toArray, List.getElem_cons_zero, List.getElem_cons_succ, Act.put, List.setIfInBounds_toArray, List.set_cons_zero, List.set_cons_succ]
        refine wpAnyH_take (i := 12) (v := ?_) rfl (by kernel_rfl) (by kernel_rfl) (by kernel_rfl) (fun _ _ _ h => h) (Or.inl ⟨by rfl, ?_⟩) (hd1) ?_
        rotate_left
        · intro wS hSw
          go_simp
          try with_reducible rfl
        try simp only [List.getElem_toArray, List.getElem_cons_zero, List.getElem_cons_succ, Act.put, List.setIfInBounds_toArray, List.set_cons_zero, List.set_cons_succ]
        refine wpAnyH_take (i := 13) (v := ?_) rfl (by kernel_rfl) (by kernel_rfl) (by kernel_rfl) (fun _ _ _ h => h) (Or.inl ⟨by rfl, ?_⟩) (hd1) ?_
        rotate_left
        · intro wS hSw
          go_simp
          try with_reducible rfl
        try simp only [List.getElem_toArray, List.getElem_cons_zero, List.getElem_cons_succ, Act.put, List.setIfInBounds_toArray, List.set_cons_zero, List.set_cons_succ]
        refine wpAnyH_take (i := 16) (v := ?_) rfl (by kernel_rfl) (by kernel_rfl) (by kernel_rfl) (fun _ _ _ h => h) (Or.inl ⟨by rfl, ?_⟩) (hd1) ?_
        rotate_left
        · intro wS hSw
          go_simp
          try with_reducible rfl
        try simp only [List.getElem_toArray, List.getElem_cons_zero, List.getElem_cons_succ, Act.put, List.setIfInBounds_toArray, List.set_cons_zero, List.set_cons_succ]
        refine wpAnyH_take (i := 17) (v := ?_) rfl (by kernel_rfl) (by kernel_rfl) (by kernel_rfl) (fun _ _ _ h => h) (Or.inl ⟨by rfl, ?_⟩) (hd1) ?_
        rotate_left
        · intro wS hSw
          go_simp
          try with_reducible rfl
        try simp only [List.getElem_toArray, List.getElem_cons_zero, List.getElem_cons_succ, Act.put, List.setIfInBounds_toArray, List.set_cons_zero, List.set_cons_succ]
        refine wpAnyH_take (i := 18) (v := ?_) rfl (by kernel_rfl) (by kernel_rfl) (by kernel_rfl) (fun _ _ _ h => h) (Or.inl ⟨by rfl, ?_⟩) (hd1) ?_
        rotate_left
        · intro wS hSw
          go_simp
          try with_reducible rfl
        try simp only [List.getElem_toArray, List.getElem_cons_zero, List.getElem_cons_succ, Act.put, List.setIfInBounds_toArray, List.set_cons_zero, List.set_cons_succ]
        refine wpAnyH_take (i := 3) (v := ?_) rfl (by kernel_rfl) (by kernel_rfl) (by kernel_rfl) (fun _ _ _ h => h) (Or.inl ⟨by rfl, ?_⟩) (hd1) ?_
        rotate_left
        · intro wS hSw
          have hcv := hSw
          go_simp
          try with_reducible rfl
        try simp only [List.getElem_toArray, List.getElem_cons_zero, List.getElem_cons_succ, Act.put, List.setIfInBounds_toArray, List.set_cons_zero, List.set_cons_succ]
        refine wpAnyH_take (i := 10) (v := ?_) rfl (by kernel_rfl) (by kernel_rfl) (by kernel_rfl) (fun _ _ _ h => h) (Or.inl ⟨by rfl, ?_⟩) (hd1) ?_
        rotate_left
        · intro wS hSw
          have hcv := hSw
          go_simp
          try with_reducible rfl
        try simp only [List.getElem_toArray, List.getElem_cons_zero, List.getElem_cons_succ, Act.put, List.setIfInBounds_toArray, List.set_cons_zero, List.set_cons_succ]
        refine wpAnyH_take (i := 14) (v := ?_) rfl (by kernel_rfl) (by kernel_rfl) (by kernel_rfl) (fun _ _ _ h => h) (Or.inl ⟨by rfl, ?_⟩) (hd1) ?_
        rotate_left
        · intro wS hSw
          go_simp
          try with_reducible rfl
        try simp only [List.getElem_toArray, List.getElem_cons_zero, List.getElem_cons_succ, Act.put, List.setIfInBounds_toArray, List.set_cons_zero, List.set_cons_succ]
        refine wpAnyH_take (i := 19) (v := ?_) rfl (by kernel_rfl) (by kernel_rfl) (by kernel_rfl) (fun _ _ _ h => h) (Or.inl ⟨by rfl, ?_⟩) (hd1) ?_
        rotate_left
        · intro wS hSw
          have hcv := trivial
          go_simp
          try with_reducible rfl
        try simp only [List.getElem_toArray, List.getElem_cons_zero, List.getElem_cons_succ, Act.put, List.setIfInBounds_toArray, List.set_cons_zero, List.set_cons_succ]
        refine wpAnyH_take (i := 20) (v := ?_) rfl (by kernel_rfl) (by kernel_rfl) (by kernel_rfl) (fun _ _ _ h => h) (Or.inl ⟨by rfl, ?_⟩) (hd1) ?_
        rotate_left
        · intro wS hSw
          go_simp
          try with_reducible rfl
        try simp only [List.getElem_toArray, List.getElem_cons_zero, List.getElem_cons_succ, Act.put, List.setIfInBounds_toArray, List.set_cons_zero, List.set_cons_succ]
        refine wpAnyH_take (i := 21) (v := ?_) rfl (by kernel_rfl) (by kernel_rfl) (by kernel_rfl) (fun _ _ _ h => h) (Or.inl ⟨by rfl, ?_⟩) (hd1) ?_
        rotate_left
        · intro wS hSw
          have hcv := trivial
          go_simp
          try with_reducible rfl
        try simp only [List.getElem_toArray, List.getElem_cons_zero, List.getElem_cons_succ, Act.put, List.setIfInBounds_toArray, List.set_cons_zero, List.set_cons_succ]
        refine wpAnyH_ready (rs := [15]) (by kernel_rfl) (by simp) ?_
        refine AllReadyH.cons rfl (fun K hK => ?_) AllReadyH.nil
        go_simp
        refine hK.out _ _ hd1 (fun _ => ?_)
        clear hK K
        try simp only [List.getElem_toArray, List.getElem_cons_zero, List.getElem_cons_succ, Act.put, List.setIfInBounds_toArray, List.set_cons_zero, List.set_cons_succ]
        refine wpAnyH_take (i := 22) (v := ?_) rfl (by kernel_rfl) (by kernel_rfl) (by kernel_rfl) (fun _ _ _ h => h) (Or.inl ⟨by rfl, ?_⟩) hd1 ?_
        rotate_left
        · intro wS hSw
          go_simp
          try with_reducible rfl
        try simp only [List.getElem_toArray, List.getElem_cons_zero, List.getElem_cons_succ, Act.put, List.setIfInBounds_toArray, List.set_cons_zero, List.set_cons_succ]
        refine wpAnyH_take (i := 23) (v := ?_) rfl (by kernel_rfl) (by kernel_rfl) (by kernel_rfl) (fun _ _ _ h => h) (Or.inl ⟨by rfl, ?_⟩) hd1 ?_
        rotate_left
        · intro wS hSw
          go_simp
          try with_reducible rfl
        try simp only [List.getElem_toArray, List.getElem_cons_zero, List.getElem_cons_succ, Act.put, List.setIfInBounds_toArray, List.set_cons_zero, List.set_cons_succ]
        refine wpAnyH_ready (rs := [24]) (by kernel_rfl) (by simp) ?_
        refine AllReadyH.cons rfl (fun K hK => ?_) AllReadyH.nil
        go_simp
        refine hK.out _ _ hd4 (fun _ => ?_)
        clear hK K
        try simp only [List.getElem_toArray, List.getElem_cons_zero, List.getElem_cons_succ, Act.put, List.setIfInBounds_toArray, List.set_cons_zero, List.set_cons_succ]
        refine wpAnyH_done (by kernel_rfl) ?_ _
        clear hd1 hd2 hd3 hd4
        generalize (wr.setCell ⟨g, at_ + 2, none⟩ (.int .u8 (z.toNat : Int))).drew = w2 at *
        clear hval HE1 HE2 hj1 hj2 hj3 hj4 hs1 hs2 hs3
        go_wp2
        go_roundw
        case rel => exact ⟨3, by omega, by go_num, HB2, HST1⟩
        case measure => simp [intOf]
      · simp only [Nat.reducePow, Int.natCast_ediv, Int.cast_ofNat_Int] at hval
        have hj1 : (at_ : Int) + 3 < (W : Int) := by omega
        have hj2 : IntKind.i64.wrap ((at_ : Int) + 3) = (at_ : Int) + 3 := by rw [IntKind.wrap_i64] <;> omega
        have hj3 : ((at_ : Int) + 3).toNat = at_ + 3 := by omega
        have hj4 : 0 ≤ (at_ : Int) + 3 := by omega
        have hs1 : IntKind.i64.wrap 24 = 24 := by decide
        have hs2 : IntKind.u64.wrap 24 = 24 := by decide
        have hs3 : IntKind.u8.wrap ((mm : Int) / 16777216) = (mm : Int) / 16777216 % 256 := rfl
        go_upto_region 13 with fail
        refine wp_region_held_drew (S := (fun wQq => wQq.cell? (ad.add K) = some (.slice (some ⟨g, 0, none⟩) W rc))) (by kernel_rfl) (hd1) (fun _ => ?_)
        refine wpAnyH_take (i := 0) (v := ?_) rfl (by kernel_rfl) (by kernel_rfl) (by kernel_rfl) (fun _ _ _ h => h) (Or.inl ⟨by rfl, ?_⟩) (hd1) ?_
        rotate_left
        · intro wS hSw
          go_simp
          try with_reducible rfl
        try simp only [List.getElem_toArray, List.getElem_cons_zero, List.getElem_cons_succ, Act.put, List.setIfInBounds_toArray, List.set_cons_zero, List.set_cons_succ]
        refine wpAnyH_take (i := 1) (v := ?_) rfl (by kernel_rfl) (by kernel_rfl) (by kernel_rfl) (fun _ _ _ h => h) (Or.inl ⟨by rfl, ?_⟩) (hd1) ?_
        rotate_left
        · intro wS hSw
          go_simp
          try with_reducible rfl
        try simp only [List.getElem_toArray, List.getElem_cons_zero, List.getElem_cons_succ, Act.put, List.setIfInBounds_toArray, List.set_cons_zero, List.set_cons_succ]
        refine wpAnyH_take (i := 2) (v := ?_) rfl (by kernel_rfl) (by kernel_rfl) (by kernel_rfl) (fun _ _ _ h => h) (Or.inl ⟨by rfl, ?_⟩) (hd1) ?_
        rotate_left
        · intro wS hSw
          go_simp
          try with_reducible rfl
        try simp only [List.getElem_toArray, List.getElem_cons_zero, List.getElem_cons_succ, Act.put, List.setIfInBounds_toArray, List.set_cons_zero, List.set_cons_succ]
        refine wpAnyH_take (i := 4) (v := ?_) rfl (by kernel_rfl) (by kernel_rfl) (by kernel_rfl) (fun _ _ _ h => h) (Or.inl ⟨by rfl, ?_⟩) (hd1) ?_
        rotate_left
        · intro wS hSw
          go_simp
          try with_reducible rfl
        try simp only [List.getElem_toArray, List.getElem_cons_zero, List.getElem_cons_succ, Act.put, List.setIfInBounds_toArray, List.set_cons_zero, List.set_cons_succ]
        refine wpAnyH_take (i := 5) (v := ?_) rfl (by kernel_rfl) (by kernel_rfl) (by kernel_rfl) (fun _ _ _ h => h) (Or.inl ⟨by rfl, ?_⟩) (hd1) ?_
        rotate_left
        · intro wS hSw
          go_simp
          try with_reducible rfl
        try simp only [List.getElem_toArray, List.getElem_cons_zero, List.getElem_cons_succ, Act.put, List.setIfInBounds_toArray, List.set_cons_zero, List.set_cons_succ]
        refine wpAnyH_take (i := 6) (v := ?_) rfl (by kernel_rfl) (by kernel_rfl) (by kernel_rfl) (fun _ _ _ h => h) (Or.inl ⟨by rfl, ?_⟩) (hd1) ?_
        rotate_left
        · intro wS hSw
          go_simp
          try with_reducible rfl
        try simp only [List.getElem_toArray, List.getElem_cons_zero, List.getElem_cons_succ, Act.put, List.setIfInBounds_toArray, List.set_cons_zero, List.set_cons_succ]
        refine wpAnyH_take (i := 7) (v := ?_) rfl (by kernel_rfl) (by kernel_rfl) (by kernel_rfl) (fun _ _ _ h => h) (Or.inl ⟨by rfl, ?_⟩) (hd1) ?_
        rotate_left
        · intro wS hSw
          go_simp
          try with_reducible rfl
        try simp only [List.getElem_toArray, List.getElem_cons_zero, List.getElem_cons_succ, Act.put, List.setIfInBounds_toArray, List.set_cons_zero, List.set_cons_succ]
        refine wpAnyH_take (i := 8) (v := ?_) rfl (by kernel_rfl) (by kernel_rfl) (by kernel_rfl) (fun _ _ _ h => h) (Or.inl ⟨by rfl, ?_⟩) (hd1) ?_
        rotate_left
        · intro wS hSw
          go_simp
          try with_reducible rfl
        try simp only [List.getElem_toArray, List.getElem_cons_zero, List.getElem_cons_succ, Act.put, List.setIfInBounds_toArray, List.set_cons_zero, List.set_cons_succ]
        refine wpAnyH_take (i := 9) (v := ?_) rfl (by kernel_rfl) (by kernel_rfl) (by kernel_rfl) (fun _ _ _ h => h) (Or.inl ⟨by rfl, ?_⟩) (hd1) ?_
        rotate_left
        · intro wS hSw
          go_simp
          try with_reducible rfl
        try simp only [List.getElem_toArray, List.getElem_cons_zero, List.getElem_cons_succ, Act.put, List.setIfInBounds_toArray, List.set_cons_zero, List.set_cons_succ]
        refine wpAnyH_take (i := 11) (v := ?_) rfl (by kernel_rfl) (by kernel_rfl) (by kernel_rfl) (fun _ _ _ h => h) (Or.inl ⟨by rfl, ?_⟩) (hd1) ?_
        rotate_left
        · intro wS hSw
          go_simp
          try with_reducible rfl
        try simp only [List.getElem_toArray, List.getElem_cons_zero, List.getElem_cons_succ, Act.put, List.setIfInBounds_toArray, List.set_cons_zero, List.set_cons_succ]
        refine wpAnyH_take (i := 12) (v := ?_) rfl (by kernel_rfl) (by kernel_rfl) (by kernel_rfl) (fun _ _ _ h => h) (Or.inl ⟨by rfl, ?_⟩) (hd1) ?_
        rotate_left
        · intro wS hSw
          go_simp
          try with_reducible rfl
        try simp only [List.getElem_toArray, List.getElem_cons_zero, List.getElem_cons_succ, Act.put, List.setIfInBounds_toArray, List.set_cons_zero, List.set_cons_succ]
        refine wpAnyH_take (i := 13) (v := ?_) rfl (by kernel_rfl) (by kernel_rfl) (by kernel_rfl) (fun _ _ _ h => h) (Or.inl ⟨by rfl, ?_⟩) (hd1) ?_
        rotate_left
        · intro wS hSw
          go_simp
          try with_reducible rfl
        try simp only [List.getElem_toArray, List.getElem_cons_zero, List.getElem_cons_succ, Act.put, List.setIfInBounds_toArray, List.set_cons_zero, List.set_cons_succ]
        refine wpAnyH_take (i := 16) (v := ?_) rfl (by kernel_rfl) (by kernel_rfl) (by kernel_rfl) (fun _ _ _ h => h) (Or.inl ⟨by rfl, ?_⟩) (hd1) ?_
        rotate_left
        · intro wS hSw
          go_simp
          try with_reducible rfl
        try simp only [List.getElem_toArray, List.getElem_cons_zero, List.getElem_cons_succ, Act.put, List.setIfInBounds_toArray, List.set_cons_zero, List.set_cons_succ]
        refine wpAnyH_take (i := 17) (v := ?_) rfl (by kernel_rfl) (by kernel_rfl) (by kernel_rfl) (fun _ _ _ h => h) (Or.inl ⟨by rfl, ?_⟩) (hd1) ?_
        rotate_left
        · intro wS hSw
          go_simp
          try with_reducible rfl
        try simp only [List.getElem_toArray, List.getElem_cons_zero, List.getElem_cons_succ, Act.put, List.setIfInBounds_toArray, List.set_cons_zero, List.set_cons_succ]
        refine wpAnyH_take (i := 18) (v := ?_) rfl (by kernel_rfl) (by kernel_rfl) (by kernel_rfl) (fun _ _ _ h => h) (Or.inl ⟨by rfl, ?_⟩) (hd1) ?_
        rotate_left
        · intro wS hSw
          go_simp
          try with_reducible rfl
        try simp only [List.getElem_toArray, List.getElem_cons_zero, List.getElem_cons_succ, Act.put, List.setIfInBounds_toArray, List.set_cons_zero, List.set_cons_succ]
        refine wpAnyH_take (i := 3) (v := ?_) rfl (by kernel_rfl) (by kernel_rfl) (by kernel_rfl) (fun _ _ _ h => h) (Or.inl ⟨by rfl, ?_⟩) (hd1) ?_
        rotate_left
        · intro wS hSw
          have hcv := hSw
          go_simp
          try with_reducible rfl
        try simp only [List.getElem_toArray, List.getElem_cons_zero, List.getElem_cons_succ, Act.put, List.setIfInBounds_toArray, List.set_cons_zero, List.set_cons_succ]
        refine wpAnyH_take (i := 10) (v := ?_) rfl (by kernel_rfl) (by kernel_rfl) (by kernel_rfl) (fun _ _ _ h => h) (Or.inl ⟨by rfl, ?_⟩) (hd1) ?_
        rotate_left
        · intro wS hSw
          have hcv := hSw
          go_simp
          try with_reducible rfl
        try simp only [List.getElem_toArray, List.getElem_cons_zero, List.getElem_cons_succ, Act.put, List.setIfInBounds_toArray, List.set_cons_zero, List.set_cons_succ]
        refine wpAnyH_take (i := 14) (v := ?_) rfl (by kernel_rfl) (by kernel_rfl) (by kernel_rfl) (fun _ _ _ h => h) (Or.inl ⟨by rfl, ?_⟩) (hd1) ?_
        rotate_left
        · intro wS hSw
          go_simp
          try with_reducible rfl
        try simp only [List.getElem_toArray, List.getElem_cons_zero, List.getElem_cons_succ, Act.put, List.setIfInBounds_toArray, List.set_cons_zero, List.set_cons_succ]
        refine wpAnyH_take (i := 19) (v := ?_) rfl (by kernel_rfl) (by kernel_rfl) (by kernel_rfl) (fun _ _ _ h => h) (Or.inl ⟨by rfl, ?_⟩) (hd1) ?_
        rotate_left
        · intro wS hSw
          have hcv := trivial
          go_simp
          try with_reducible rfl
        try simp only [List.getElem_toArray, List.getElem_cons_zero, List.getElem_cons_succ, Act.put, List.setIfInBounds_toArray, List.set_cons_zero, List.set_cons_succ]
        refine wpAnyH_take (i := 20) (v := ?_) rfl (by kernel_rfl) (by kernel_rfl) (by kernel_rfl) (fun _ _ _ h => h) (Or.inl ⟨by rfl, ?_⟩) (hd1) ?_
        rotate_left
        · intro wS hSw
          go_simp
          try with_reducible rfl
        try simp only [List.getElem_toArray, List.getElem_cons_zero, List.getElem_cons_succ, Act.put, List.setIfInBounds_toArray, List.set_cons_zero, List.set_cons_succ]
        refine wpAnyH_take (i := 21) (v := ?_) rfl (by kernel_rfl) (by kernel_rfl) (by kernel_rfl) (fun _ _ _ h => h) (Or.inl ⟨by rfl, ?_⟩) (hd1) ?_
        rotate_left
        · intro wS hSw
          have hcv := trivial
          go_simp
          try with_reducible rfl
        try simp only [List.getElem_toArray, List.getElem_cons_zero, List.getElem_cons_succ, Act.put, List.setIfInBounds_toArray, List.set_cons_zero, List.set_cons_succ]
        refine wpAnyH_ready (rs := [15]) (by kernel_rfl) (by simp) ?_
        refine AllReadyH.cons rfl (fun K hK => ?_) AllReadyH.nil
        go_simp
        refine hK.out _ _ hd1 (fun _ => ?_)
        clear hK K
        try simp only [List.getElem_toArray, List.getElem_cons_zero, List.getElem_cons_succ, Act.put, List.setIfInBounds_toArray, List.set_cons_zero, List.set_cons_succ]
        refine wpAnyH_take (i := 22) (v := ?_) rfl (by kernel_rfl) (by kernel_rfl) (by kernel_rfl) (fun _ _ _ h => h) (Or.inl ⟨by rfl, ?_⟩) hd1 ?_
        rotate_left
        · intro wS hSw
          go_simp
          try with_reducible rfl
        try simp only [List.getElem_toArray, List.getElem_cons_zero, List.getElem_cons_succ, Act.put, List.setIfInBounds_toArray, List.set_cons_zero, List.set_cons_succ]
        refine wpAnyH_take (i := 23) (v := ?_) rfl (by kernel_rfl) (by kernel_rfl) (by kernel_rfl) (fun _ _ _ h => h) (Or.inl ⟨by rfl, ?_⟩) hd1 ?_
        rotate_left
        · intro wS hSw
          go_simp
          try with_reducible rfl
        try simp only [List.getElem_toArray, List.getElem_cons_zero, List.getElem_cons_succ, Act.put, List.setIfInBounds_toArray, List.set_cons_zero, List.set_cons_succ]
        refine wpAnyH_ready (rs := [24]) (by kernel_rfl) (by simp) ?_
        refine AllReadyH.cons rfl (fun K hK => ?_) AllReadyH.nil
        go_simp
        refine hK.out _ _ hd4 (fun _ => ?_)
        clear hK K
        try simp only [List.getElem_toArray, List.getElem_cons_zero, List.getElem_cons_succ, Act.put, List.setIfInBounds_toArray, List.set_cons_zero, List.set_cons_succ]
        refine wpAnyH_done (by kernel_rfl) ?_ _
        clear hd1 hd2 hd3 hd4
        generalize (wr.setCell ⟨g, at_ + 3, none⟩ (.int .u8 (z.toNat : Int))).drew = w2 at *
        clear hval HE1 HE2 hj1 hj2 hj3 hj4 hs1 hs2 hs3
        go_wp2
        go_roundw
        case rel => exact ⟨4, by omega, by go_num, HB2, HST1⟩
        case measure => simp [intOf]
    · obtain rfl : k = 4 := by omega
      have hkl : K < L.length := HR.out
      have HA := Lib.hid (HTW.out)
      obtain ⟨M, hM⟩ : ∃ M : List RowB, L.set K ⟨some ⟨g, 0, none⟩, W, rc, Crc.chg T at_ (Num.leB mm 4) 4⟩ = M := ⟨_, rfl⟩
      have hMb : M.map (·.bs) = P.set K (Crc.chg T at_ (Num.leB mm 4) 4) := by rw [← hM, List.map_set, HL.out]
      have hMl : M.length = n1 := by rw [← hM, List.length_set, HLN.out]
      rw [hM] at hs
      have hMm : ∀ r ∈ M, r.n ≤ 1000000 := by
        intro r hr
        rw [← (hs.out.rows.at r hr).len]
        rw [← hM] at hr
        rcases List.mem_or_eq_of_mem_set hr with h1 | rfl
        · obtain ⟨j, hj, rfl⟩ := List.getElem_of_mem h1
          have := HRW.out j hj
          omega
        · show (Crc.chg T at_ (Num.leB mm 4) 4).length ≤ 1000000
          rw [Crc.chg_length, HTW.out]
          omega
      have HJ := Lib.hid fun W2 (h : Below wr.heap.size wr W2) => frmJoin (some ad) n1 c1 M W2 (Rd.of_own (own_via hs.out.own h)) ((hs.out.rows.below h).at) hMl (by omega) hMm
      have HAL := Lib.hid fun W2 (h : Below wr.heap.size wr W2) => frmAll (some ad) n1 c1 M W2 (Rd.of_own (own_via hs.out.own h)) ((hs.out.rows.below h).at) hMl hc1 (by unfold maxLen; omega) (by omega) hMm
      have hj4 : Frm.joinF 0 0#32 [] (M.map (·.bs)) = ([], 0, 4) := by rw [hMb]; exact HJ0.out
      have ha4 : Frm.all (M.map (·.bs)) = ([], 0) := Frm.all_no (by rw [hj4]; decide)
      rw [hj4] at HJ
      rw [ha4] at HAL
      clear hj4 ha4 hMm hMl hMb hM hlt HA hkl hs HJ0 HL HLN HRW HTW HR
      go_wp2_with fail
      refine (HJ.out wr (Below.refl _ _)).mono ?_
      rintro e w3 ⟨A3, n3, c3, rfl, hn3, _, hb3⟩
      obtain rfl : n3 = 0 := hn3.symm
      have HB3 := Lib.hid hb3
      clear hn3 hb3 HJ
      go_wp2_with fail
      refine (HAL.out w3 HB3.out).mono ?_
      rintro e w4 ⟨A4, n4, c4, L4, rfl, hl4, hn4, _, _, hb4⟩
      obtain rfl : n4 = 0 := by rw [← hn4]; have := congrArg List.length hl4; simpa using this
      have HB4 := Lib.hid (hb.out.via (HB3.out.via hb4))
      clear hl4 hn4 hb4 HAL HB3
      go_wp2_with fail
      refine (HFR.out w4).mono ?_
      rintro e w9 ⟨rfl, hb9⟩
      have HB9 := Lib.hid (HB4.out.via hb9)
      clear hb9
      go_wp2
      go_ret
      exact ⟨rfl, HB9.out⟩
end Cib
