/- The law LocateFar. -/
import Derived.Test.YthlpcghoijgeiaaLocG
set_option linter.unusedVariables false
set_option linter.unusedSimpArgs false
set_option maxRecDepth 40000
namespace Loc
open Cib
theorem dif_self3 (a : List (List UInt8)) : ∀ p, p ≤ a.length → dif a a p = []
  | 0, _ => rfl
  | p + 1, h => by
    rw [dif_next, if_pos, dif_self3 a p (by omega)]
    unfold sameB
    rw [decide_eq_true (by omega)]
    simp
theorem far {k m W n : Nat} (h0 : 0 < k) (hs : k + m ≤ 255) (hn : k + m = n) {D E : List (List UInt8)} (hD : D.length = k) (hE : E.length = k) (hDw : ∀ r ∈ D, r.length = W) (hEw : ∀ r ∈ E, r.length = W) (hne : D ≠ E) : m < (dif (Cod.shards k D n) (Cod.shards k E n) n).length := by
  refine Nat.lt_of_not_le fun hle => hne ?_
  refine nearSame h0 hs hD hE hDw hEw (dif (Cod.shards k D n) (Cod.shards k E n) n) hle (fun i hi hni => ?_)
  rw [hn] at hi
  have h1 : sameB (Cod.shards k D n) (Cod.shards k E n) i = true := by
    cases h : sameB (Cod.shards k D n) (Cod.shards k E n) i
    · exact absurd (dif_mem.2 ⟨hi, h⟩) hni
    · rfl
  have h2 := (same_of (Cod.shards_length _ _ _) (Cod.shards_length _ _ _) hi).1 h1
  rw [shards_at k D hi, shards_at k E hi] at h2
  exact h2
theorem off_shards {k m n : Nat} {D : List (List UInt8)} (hn : k + m = n) (hD : D.length = k) (he : Cod.evn D = true) : Dlt.off k (Cod.shards k D n) m = [] := by
  refine (off_all m).2 fun j hj => ?_
  have ht : (Cod.shards k D n).take k = D := by
    rw [← hn, ← Cod.shards_data hD he, ← hD, List.take_left]
  rw [ht, shards_at k D (by omega)]
end Loc
namespace Cib
open Go Go.RowKit Go.Proofs
theorem split_wid {bs : List UInt8} {W p : Nat} : ∀ r ∈ Cod.splitD bs W p, r.length = W := by
  intro r hr
  simp only [Cod.splitD, List.mem_map] at hr
  obtain ⟨i, _, rfl⟩ := hr
  exact Cod.cutRow_length _ _ _
theorem evn_wid {D : List (List UInt8)} {W : Nat} (h : ∀ r ∈ D, r.length = W) : Cod.evn D = true := by
  rw [Cod.evn_true]
  intro r hr
  cases D with
  | nil => cases hr
  | cons a l => rw [h r hr, Cod.len0_eq (by simp), h _ (by simp)]
theorem clampW (na nb k : Nat) : ∃ W : Nat, Hid (max (na : Int) (nb : Int) / (k : Int) + 1 = (W : Int)) ∧ W = max na nb / k + 1 := by
  refine ⟨max na nb / k + 1, ?_, rfl⟩
  unfold Hid
  rw [show max (na : Int) (nb : Int) = ((max na nb : Nat) : Int) by omega]
  omega
/-- Rows of which the law knows the bytes. -/
theorem rows_wid {w : World} {B : Nat} {L : List RowB} {D : List (List UInt8)} {W : Nat} (h : RowsAt w B L) (hD : bss L = D) (hw : ∀ r ∈ D, r.length = W) : ∀ r ∈ L, r.n = W := fun r hr => by
  rw [← (h r hr).len]
  exact hw r.bs (by rw [← hD]; exact List.mem_map_of_mem hr)
theorem shards_wid {k n W : Nat} {D : List (List UInt8)} (h0 : 0 < k) (hD : D.length = k) (hw : ∀ r ∈ D, r.length = W) : ∀ r ∈ Cod.shards k D n, r.length = W := by
  intro r hr
  simp only [Cod.shards, List.mem_map] at hr
  obtain ⟨j, _, rfl⟩ := hr
  rw [Cod.shard_length, Cod.len0_eq (by omega)]
  exact hw _ (List.getElem_mem _)
set_option maxHeartbeats 8000000 in
theorem lawFar (k m : Int) (Aa : Option Addr) (na ca : Nat) (as_ : List UInt8) (Ab : Option Addr) (nb cb : Nat) (bs : List UInt8) (w : World) (hk : -9223372036854775808 ≤ k ∧ k ≤ 9223372036854775807) (hm : -9223372036854775808 ≤ m ∧ m ≤ 9223372036854775807)
    (hra : Rd w w.heap.size Aa (as_.map bv)) (hna : as_.length = na) (hca : na ≤ ca) (hcam : ca ≤ maxLen) (hrb : Rd w w.heap.size Ab (bs.map bv)) (hnb : bs.length = nb) (hcb : nb ≤ cb) (hcbm : cb ≤ maxLen) :
    Calls Try.prog 3 #[.int .i64 k, .int .i64 m, .slice Aa na ca, .slice Ab nb cb] w fun e w' => e = .returned (.bool true) ∧ Below w.heap.size w w' := by
  have HFR := Lib.hid lawFinds
  have hcam' := hcam
  have hcbm' := hcbm
  unfold maxLen at hcam' hcbm'
  have HRA := Lib.hid hra
  have HNA := Lib.hid hna
  have HRB := Lib.hid hrb
  have HNB := Lib.hid hnb
  clear hra hna hrb hnb
  by_cases hmay : mayC k m
  rotate_left
  · have HN0 := Lib.hid (fun p W => cdNew0 p k m hmay hk hm W)
    clear hmay HRB HNB HRA HNA
    go_enter Try.func3, Try.ntmps3
    go_wp2_with fail
    refine (fldNewA _).mono ?_
    rintro e w1 ⟨rfl, hf, hz, hb0⟩
    have HB1 := Lib.hid (hb0 w.heap.size w (Nat.le_refl _) (Below.refl _ _))
    clear hb0 hz hf
    go_wp2_with fail
    refine (HN0.out _ w1).mono ?_
    rintro e w2 ⟨rfl, rfl⟩
    go_wp2_with fail
    refine (HFR.out _).mono ?_
    rintro e w9 ⟨rfl, hb9⟩
    have HB9 := Lib.hid (HB1.out.via hb9)
    clear hb9
    go_wp2
    go_ret
    exact ⟨rfl, HB9.out⟩
  obtain ⟨hm1, hm2, hm3, hm4⟩ := hmay
  obtain ⟨k, rfl⟩ : ∃ n : Nat, k = (n : Int) := ⟨k.toNat, by omega⟩
  obtain ⟨m, rfl⟩ : ∃ n : Nat, m = (n : Int) := ⟨m.toNat, by omega⟩
  have hs : k + m ≤ 255 := by omega
  have hwkm : IntKind.i64.wrap ((k : Int) + (m : Int)) = (k : Int) + (m : Int) := by rw [IntKind.wrap_i64]; omega
  have HN := Lib.hid (fun V h => cdNew w.heap.size k m (by omega) (by omega) hs V h)
  by_cases hgo : 24 < k + m ∨ 200 < na ∨ 200 < nb
  · have hgo2 : (24 < (k : Int) + m) ∨ ((k : Int) + m ≤ 24 ∧ 200 < na) ∨ ((k : Int) + m ≤ 24 ∧ na ≤ 200 ∧ 200 < nb) := by omega
    clear hgo HRB HNB HRA HNA
    go_enter Try.func3, Try.ntmps3
    go_wp2_with fail
    refine (fldNewA _).mono ?_
    rintro e w1 ⟨rfl, hf, hz, hb0⟩
    have hb1 := hb0 w.heap.size w (Nat.le_refl _) (Below.refl _ _)
    clear hb0 hz
    go_wp2_with fail
    refine (HN.out w1 hf).mono ?_
    rintro e w2 ⟨g, A1, c1, rfl, hg, hC, hs2⟩
    have HB2 := Lib.hid (hs2.below hb1 (Nat.le_refl _) hb1.size)
    clear hs2 hb1 hg hC hf HN
    rcases hgo2 with g1 | ⟨g1, g2⟩ | ⟨g1, g2, g3⟩
    all_goals
      go_wp2_with (go_at_call 7; refine (HFR.out _).mono ?_; rintro e w9 ⟨rfl, hb9⟩)
      all_goals (go_ret; exact ⟨rfl, HB2.out.via hb9⟩)
  have hkm24 : k + m ≤ 24 := by omega
  have hna2 : na ≤ 200 := by omega
  have hnb2 : nb ≤ 200 := by omega
  have hk1 : 1 ≤ k := by omega
  have hkI : (k : Int) + (m : Int) ≤ 24 := by omega
  obtain ⟨n, hn⟩ : ∃ n, k + m = n := ⟨_, rfl⟩
  have hnI : (k : Int) + (m : Int) = (n : Int) := by omega
  obtain ⟨W, hW, hWe⟩ := clampW na nb k
  have hW1 : 1 ≤ W := by rw [hWe]; exact Nat.succ_le_succ (Nat.zero_le _)
  have hq : ∀ x : Nat, x ≤ 200 → wrap64 ((x : Int) / (k : Int) + 1) = (x : Int) / (k : Int) + 1 := fun x hx => by
    have h1 : 0 ≤ (x : Int) / (k : Int) := Int.ediv_nonneg (by omega) (by omega)
    have h2 : (x : Int) / (k : Int) ≤ (x : Int) := Int.ediv_le_self _ (by omega)
    unfold wrap64
    omega
  have HQW := Lib.hid hq
  have hW2 : W ≤ 201 := by
    have := Nat.div_le_self (max na nb) k
    omega
  have hkW : max na nb ≤ k * W := by
    rw [hWe, Nat.mul_add, Nat.mul_one]
    have h1 := Nat.div_add_mod (max na nb) k
    have h2 := Nat.mod_lt (max na nb) hk1
    omega
  have HWA := Lib.hid (show na ≤ k * W by omega)
  have HWB := Lib.hid (show nb ≤ k * W by omega)
  clear hgo hm1 hm2 hm3 hm4 hk hm hWe hkW hq
  have hkne : ((k : Int) == 0) = false := by simp; omega
  have hkpos : (0 : Int) < (k : Int) := by omega
  go_enter Try.func3, Try.ntmps3
  go_wp2_with fail
  refine (fldNewA _).mono ?_
  rintro e w1 ⟨rfl, hf, hz, hb0⟩
  have hb1 := hb0 w.heap.size w (Nat.le_refl _) (Below.refl _ _)
  clear hb0 hz
  go_wp2_with fail
  refine (HN.out w1 hf).mono ?_
  rintro e w2 ⟨g, A1, c1, rfl, hg, hC, hs2⟩
  have HB2 := Lib.hid (hs2.below hb1 (Nat.le_refl _) hb1.size)
  have HC2 := Lib.hid hC
  have HSA := Lib.hid (cdSplit hC w.heap.size Aa na ca W as_ (HRA.out.below HB2.out) HB2.out.size HNA.out hca hcam ⟨hW1, by omega⟩ HWA.out)
  have HSB := Lib.hid fun V (hV : Below w2.heap.size w2 V) => cdSplit (hC.below hV) w.heap.size Ab nb cb W bs (HRB.out.below (HB2.out.via hV)) (HB2.out.via hV).size HNB.out hcb hcbm ⟨hW1, by omega⟩ HWB.out
  obtain ⟨D, hD⟩ : ∃ D, Cod.splitD as_ W k = D := ⟨_, rfl⟩
  obtain ⟨E, hE⟩ : ∃ E, Cod.splitD bs W k = E := ⟨_, rfl⟩
  have HDW : Hid (∀ r ∈ D, r.length = W) := Lib.hid (by rw [← hD]; exact split_wid)
  have HDL : Hid (D.length = k) := Lib.hid (by rw [← hD]; exact Cod.splitD_length _ _ _)
  have HEW : Hid (∀ r ∈ E, r.length = W) := Lib.hid (by rw [← hE]; exact split_wid)
  have HEL : Hid (E.length = k) := Lib.hid (by rw [← hE]; exact Cod.splitD_length _ _ _)
  rw [hD] at HSA
  simp only [hE] at HSB
  clear hs2 hb1 hg hC hf HN hD hE HRB HNB HRA HNA
  go_upto_region 4 with fail
  go_cut [10] (fun x wx => x = .int .i64 (W : Int) ∧ wx = w2)
  case first =>
    have hW' := hW.out
    clear hW HSA HSB
    go_wp2_with fail
    all_goals
      go_meet
      refine ⟨int_eq ?_, rfl⟩
      rw [HQW.out _ (by omega)]
      first
        | (rw [show max (na : Int) (nb : Int) = (na : Int) by omega] at hW'; exact hW')
        | (rw [show max (na : Int) (nb : Int) = (nb : Int) by omega] at hW'; exact hW')
  case rest =>
  obtain ⟨rfl, hwx⟩ := hcut
  replace hwx := hwx.symm
  subst hwx
  clear hW
  go_wp2_with fail
  refine HSA.out.mono ?_
  rintro e w3 ⟨A3, n3, c3, L3, rfl, hL3, hn3, ho3, hR3, hb3⟩
  have HB3 := Lib.hid (HB2.out.via hb3)
  have HB23 := Lib.hid hb3
  have HL3 : Hid (bss L3 = D) := Lib.hid hL3
  have HLK3 : Hid (L3.length = k) := Lib.hid (by rw [← HDL.out, ← hL3, List.length_map])
  obtain rfl : k = n3 := by rw [← hn3, HLK3.out]
  have HO3 := Lib.hid ho3
  have HR3 := Lib.hid hR3
  clear hL3 hn3 ho3 hR3 hb3 HSA
  go_wp2_with fail
  refine (HSB.out w3 HB23.out).mono ?_
  rintro e w4 ⟨A4, n4, c4, L4, rfl, hL4, hn4, ho4, hR4, hb4⟩
  have HB4 := Lib.hid (HB3.out.via hb4)
  have HB24 := Lib.hid (HB23.out.via hb4)
  have HL4 : Hid (bss L4 = E) := Lib.hid hL4
  have HLK4 : Hid (L4.length = k) := Lib.hid (by rw [← HEL.out, ← hL4, List.length_map])
  obtain rfl : k = n4 := by rw [← hn4, HLK4.out]
  have HO4 := Lib.hid ho4
  have HR4 := Lib.hid hR4
  have HB34 := Lib.hid hb4
  have HP := Lib.hid (cdAllR (HC2.out.below HB24.out) L3 w4.heap.size A3 c3 (Rd.of_own (own_via HO3.out hb4)) (HR3.out.below hb4).at (Nat.le_refl _) HLK3.out (by rw [HL3.out]; exact evn_wid HDW.out) (fun r hr => by rw [rows_wid HR3.out.at HL3.out HDW.out r hr]; omega))
  rw [HL3.out, hn] at HP
  clear hL4 hn4 ho4 hR4 hb4 HSB
  go_wp2_with fail
  refine HP.out.mono ?_
  rintro e w5 ⟨A5, n5, c5, L5, rfl, hL5, hn5, ho5, hR5, hb5⟩
  have HB5 := Lib.hid (HB4.out.via hb5)
  have HB25 := Lib.hid (HB24.out.via hb5)
  have HB45 := Lib.hid hb5
  have HL5 : Hid (bss L5 = Cod.shards k D n) := Lib.hid hL5
  have HLN5 : Hid (L5.length = n) := Lib.hid (by rw [← Cod.shards_length k D n, ← hL5, List.length_map])
  obtain rfl : n = n5 := by rw [← hn5, HLN5.out]
  have HO5 := Lib.hid ho5
  have HR5 := Lib.hid hR5
  have HQ := Lib.hid (cdAllR (HC2.out.below HB25.out) L4 w5.heap.size A4 c4 (Rd.of_own (own_via HO4.out hb5)) (HR4.out.below hb5).at (Nat.le_refl _) HLK4.out (by rw [HL4.out]; exact evn_wid HEW.out) (fun r hr => by rw [rows_wid HR4.out.at HL4.out HEW.out r hr]; omega))
  rw [HL4.out, hn] at HQ
  clear hL5 hn5 ho5 hR5 hb5 HP
  go_wp2_with fail
  refine HQ.out.mono ?_
  rintro e w6 ⟨A6, n6, c6, L6, rfl, hL6, hn6, ho6, hR6, hb6⟩
  have HB6 := Lib.hid (HB5.out.via hb6)
  have HB26 := Lib.hid (HB25.out.via hb6)
  have HB56 := Lib.hid hb6
  have HL6 : Hid (bss L6 = Cod.shards k E n) := Lib.hid hL6
  have HLN6 : Hid (L6.length = n) := Lib.hid (by rw [← Cod.shards_length k E n, ← hL6, List.length_map])
  obtain rfl : n = n6 := by rw [← hn6, HLN6.out]
  have HO6 := Lib.hid ho6
  have HR6 := Lib.hid hR6
  have hcp5 := own_cap HO5.out
  have hcp6 := own_cap HO6.out
  have HH5 := Lib.hid (dlHolds (w := w6) (.pointer (some ⟨g, 0, none⟩)) (.slice A5 n c5) [] 0 true rfl (by
    have h := dlOff (HC2.out.below HB26.out) L5 w6.heap.size A5 n c5 (Rd.of_own (own_via HO5.out hb6)) (HR5.out.below hb6).at (Nat.le_refl _) HLN5.out hcp5.1 hcp5.2 (fun r hr => by rw [rows_wid HR5.out.at HL5.out (shards_wid hk1 HDL.out HDW.out) r hr]; omega) hn.symm (by rw [HL5.out]; exact evn_wid (shards_wid hk1 HDL.out HDW.out))
    rwa [HL5.out, Loc.off_shards hn HDL.out (evn_wid HDW.out)] at h))
  have HH6 := Lib.hid fun V (hV : Below w6.heap.size w6 V) => dlHolds (w := V) (.pointer (some ⟨g, 0, none⟩)) (.slice A6 n c6) [] 0 true rfl (by
    have h := dlOff (HC2.out.below (HB26.out.via hV)) L6 V.heap.size A6 n c6 (Rd.of_own (own_via HO6.out hV)) (HR6.out.below hV).at (Nat.le_refl _) HLN6.out hcp6.1 hcp6.2 (fun r hr => by rw [rows_wid HR6.out.at HL6.out (shards_wid hk1 HEL.out HEW.out) r hr]; omega) hn.symm (by rw [HL6.out]; exact evn_wid (shards_wid hk1 HEL.out HEW.out))
    rwa [HL6.out, Loc.off_shards hn HEL.out (evn_wid HEW.out)] at h)
  have hne1 : ((n : Int) != (n : Int)) = false := by simp
  clear hL6 hn6 ho6 hR6 hb6 HQ hcp5 hcp6
  go_wp2_with fail
  refine HH5.out.mono ?_
  rintro e w7 ⟨rfl, hb7⟩
  have HB67 := Lib.hid hb7
  clear hb7 HH5
  go_wp2_with fail
  refine (HH6.out w7 HB67.out).mono ?_
  rintro e w8 ⟨rfl, hb8⟩
  have HB68 := Lib.hid (HB67.out.via hb8)
  have HB58 := Lib.hid (HB56.out.via HB68.out)
  have HB8 := Lib.hid (HB6.out.via HB68.out)
  have HDF := Lib.hid (locDiffer L5 L6 w8.heap.size A5 A6 n c5 n c6 w8 (Rd.of_own (own_via HO5.out HB58.out)) (HR5.out.below HB58.out).at (Rd.of_own (own_via HO6.out HB68.out)) (HR6.out.below HB68.out).at HLN5.out HLN6.out (Nat.le_refl _) (by omega) (by omega))
  rw [Nat.max_self, HL5.out, HL6.out] at HDF
  have HFE : Hid (D = E → (Loc.dif (Cod.shards k D n) (Cod.shards k E n) n).length = 0) := Lib.hid fun h => by
    rw [← h, Loc.dif_self3 (Cod.shards k D n) n (by rw [Cod.shards_length]; exact Nat.le_refl _)]
    rfl
  have HFA : Hid (D ≠ E → m < (Loc.dif (Cod.shards k D n) (Cod.shards k E n) n).length) := Lib.hid fun h => Loc.far hk1 hs hn HDL.out HEL.out HDW.out HEW.out h
  have HDM := Lib.hid (Loc.dif_le (Cod.shards k D n) (Cod.shards k E n) n)
  generalize Loc.dif (Cod.shards k D n) (Cod.shards k E n) n = dl at *
  have HB48 := Lib.hid (HB45.out.via HB58.out)
  have HB38 := Lib.hid (HB34.out.via HB48.out)
  have HSM := Lib.hid fun V (hV : Below w8.heap.size w8 V) => refSame5 L3 L4 V.heap.size A3 A4 k c3 k c4 V (Rd.of_own (own_via HO3.out (HB38.out.via hV))) (HR3.out.below (HB38.out.via hV)).at (Rd.of_own (own_via HO4.out (HB48.out.via hV))) (HR4.out.below (HB48.out.via hV)).at HLK3.out HLK4.out (Nat.le_refl _) (by unfold maxLen; omega) (by unfold maxLen; omega)
  rw [HL3.out, HL4.out] at HSM
  clear hb8 HH6 HL5 HL6 HO5 HO6 HR5 HR6 HLN5 HLN6
  go_wp2_with fail
  refine HDF.out.mono ?_
  rintro e w9 ⟨A9, n9, c9, rfl, hn9, _, hb9⟩
  rw [hn9] at HFE HFA HDM
  have hn9m : n9 ≤ 24 := by have := HDM.out; omega
  have HB89 := Lib.hid hb9
  clear hn9 hb9 HDF
  by_cases hDE : D = E
  · obtain rfl : n9 = 0 := HFE.out hDE
    have HDE := Lib.hid hDE
    clear hDE HFA
    go_wp2_with fail
    refine (HSM.out w9 HB89.out).mono ?_
    rintro e wa ⟨⟨x, rfl, hx⟩, hba⟩
    obtain rfl : x = true := hx.2 HDE.out
    have HBA := Lib.hid (HB8.out.via (HB89.out.via hba))
    clear hx hba HSM
    go_wp2_with fail
    refine (HFR.out wa).mono ?_
    rintro e wz ⟨rfl, hbz⟩
    have HBZ := Lib.hid (HBA.out.via hbz)
    clear hbz
    go_wp2
    go_ret
    exact ⟨rfl, HBZ.out⟩
  · have hmn := HFA.out hDE
    have HDE := Lib.hid hDE
    clear hDE HFE
    go_wp2_with fail
    refine (HSM.out w9 HB89.out).mono ?_
    rintro e wa ⟨⟨x, rfl, hx⟩, hba⟩
    have hxf : x = false := by
      cases x
      · rfl
      · exact absurd (hx.1 rfl) HDE.out
    subst hxf
    have HB8A := Lib.hid (HB89.out.via hba)
    clear hx hba
    go_wp2_with fail
    refine (HSM.out wa HB8A.out).mono ?_
    rintro e wb ⟨⟨x, rfl, hx⟩, hbb⟩
    have hxf : x = false := by
      cases x
      · rfl
      · exact absurd (hx.1 rfl) HDE.out
    subst hxf
    have HBB := Lib.hid (HB8.out.via (HB8A.out.via hbb))
    clear hx hbb HSM
    go_wp2_with fail
    refine (HFR.out wb).mono ?_
    rintro e wz ⟨rfl, hbz⟩
    have HBZ := Lib.hid (HBB.out.via hbz)
    clear hbz
    go_wp2
    go_ret
    exact ⟨rfl, HBZ.out⟩
end Cib
