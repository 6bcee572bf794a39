/- The law FrameTorn. -/
import Derived.Test.YtmabmhiombnngaaFrmX
import Derived.Test.YtmabmhiombnngaaFrmF
import Derived.Test.YtmabmhiombnngaaFrmY
set_option linter.unusedVariables false
set_option linter.unusedSimpArgs false
set_option maxRecDepth 40000
namespace Cib
open Go Go.RowKit Go.Proofs
theorem clampM (a : Int) (n : Nat) : ∃ K : Nat, Hid (max 0 (min a (n : Int)) = (K : Int)) ∧ K ≤ n := by
  refine ⟨(max 0 (min a (n : Int))).toNat, ?_, by omega⟩
  unfold Hid
  omega
theorem rows_takeR {w : World} {B : Nat} {L : List RowB} (h : RowsAt w B L) (k : Nat) : RowsAt w B (L.take k) := fun r hr => h r (List.mem_of_mem_take hr)
set_option maxHeartbeats 4000000 in
theorem lawTorn (A : Option Addr) (n c : Nat) (L : List RowB) (room at_ : Int) (w : World) (hr : Rd w w.heap.size A (L.map RowB.v)) (hR : RowsAt w w.heap.size L) (hl : L.length = n) (hc : n ≤ c) (hcm : c ≤ maxLen) (hro : -9223372036854775808 ≤ room ∧ room ≤ 9223372036854775807) (hat : -9223372036854775808 ≤ at_ ∧ at_ ≤ 9223372036854775807) :
    Calls Try.prog 5 #[.slice A n c, .int .i64 room, .int .i64 at_] w fun e w' => e = .returned (.bool true) ∧ Below w.heap.size w w' := by
  have hcm' := hcm
  unfold maxLen at hcm'
  have HP := Lib.hid hr
  have HPR := Lib.hid hR
  have HL := Lib.hid hl
  have HFR := Lib.hid lawFrames
  clear hr hR hl
  by_cases hgo : 8 < n ∨ room < 8 ∨ 100 < room
  · go_enter Try.func5, Try.ntmps5
    rcases hgo with h1 | h1 | h1
    all_goals
      go_wp2_with (go_at_call 8; refine (HFR.out _).mono ?_; rintro e w' ⟨rfl, hb9⟩)
      all_goals (go_ret; exact ⟨rfl, hb9⟩)
  have hn8 : n ≤ 8 := by omega
  obtain ⟨R, rfl⟩ := Int.eq_ofNat_of_zero_le (show 0 ≤ room by omega)
  have hR1 : 8 ≤ R := by omega
  have hR2 : R ≤ 100 := by omega
  clear hgo hro
  go_enter Try.func5, Try.ntmps5
  go_wp2
  go_loopw [7, 8, 9, 10, 11, 12] (fun al en i _ _ _ wr => ∃ (p : Nat) (Aa : Option Addr) (na ca : Nat) (Ae : Option Addr) (ce : Nat) (M : List RowB), i = .int .i64 p ∧ p ≤ n ∧ al = .slice Aa na ca ∧ en = .slice Ae p ce ∧ na ≤ 201 * p ∧ Hid (TornI w R (L.map (·.bs)) p Aa na ca Ae ce M wr)) (fun _ _ i _ _ _ _ => n - (intOf i).toNat)
  case atStart => exact ⟨0, none, 0, 0, none, 0, [], rfl, Nat.zero_le _, rfl, rfl, by omega, Lib.hid (TornI.nil _ _ _)⟩
  case round =>
    obtain ⟨p, Aa, na, ca, Ae, ce, M, rfl, hp, rfl, rfl, hna, HI⟩ := hrel
    by_cases hlt : p < n
    · have hpL : p < L.length := by rw [HL.out]; exact hlt
      have hbw := HI.out.sts.below
      obtain ⟨ad, rfl, hab, hcell⟩ := ((HP.out.below hbw).more hbw.size).row hpL
      have hq := ((HPR.out.below hbw).more hbw.size).get hpL
      obtain ⟨r, hr⟩ : ∃ r, L[p] = r := ⟨_, rfl⟩
      have HRE : Hid (∀ h : p < L.length, L[p].bs = r.bs) := Lib.hid fun _ => by rw [hr]
      rw [hr] at hcell hq
      have HPL := Lib.hid hpL
      have HQ := Lib.hid hq
      have HBW := Lib.hid hbw
      clear hr hpL hq hbw
      obtain ⟨rA, rn, rc, rbs⟩ := r
      simp only at hcell HRE
      by_cases h2 : 200 < rn
      · clear HQ HRE HPL HI
        go_wp2_with (go_at_call 8; refine (HFR.out _).mono ?_; rintro e w' ⟨rfl, hb9⟩)
        go_ret
        exact ⟨rfl, HBW.out.via hb9⟩
      · have HC := Lib.hid (frmCut rA rn rc rbs R wr HQ.out.rd HQ.out.len HQ.out.cap HQ.out.max (by omega) ⟨by omega, by omega⟩)
        have HPO := Lib.hid (Frm.cutF_pos R 1 0#32 rbs)
        have HPM := Lib.hid (Frm.cutF_len' R (by omega) rbs.length rbs (Nat.le_refl _) 1 0#32)
        have HFT := Lib.hid (Frm.cut_fits R (by omega) rbs.length rbs (Nat.le_refl _) 1 0#32)
        have hrl : rbs.length = rn := HQ.out.len
        rw [hrl] at HPM
        obtain ⟨P, hP⟩ : ∃ P, Frm.cutF R 1 0#32 rbs = P := ⟨_, rfl⟩
        have HPE : Hid (P = Frm.cutF R 1 0#32 rbs) := Lib.hid hP.symm
        simp only [hP] at HC HPO HPM HFT
        clear hrl HQ
        go_wp2_with fail
        refine HC.out.mono ?_
        rintro e w1 ⟨A1, n1, c1, L1, rfl, hL1, hn1, ho1, hr1, hb1⟩
        have hn0 : 0 < n1 := by have := HPO.out; rw [← hL1, List.length_map, hn1] at this; exact this
        have hn201 : n1 ≤ 201 := by have := HPM.out; rw [← hL1, List.length_map, hn1] at this; omega
        have HFI : Hid (∀ k (h : k < L1.length), L1[k].n ≤ R ∧ (k + 1 < n1 → L1[k].n = R)) := Lib.hid fun k h => by
          have h3 := HFT.out k (by rw [← hL1, List.length_map]; exact h)
          simp only [← hL1, List.getElem_map, List.length_map, hn1] at h3
          rw [(hr1.at _ (List.getElem_mem h)).len] at h3
          exact h3
        obtain ⟨ad1, rfl, hx1, hx2⟩ := (Rd.of_own ho1).row (show 0 < L1.length by omega)
        have HL1 := Lib.hid hL1
        have HN1 := Lib.hid hn1
        have HO1 := Lib.hid ho1
        have HR1 := Lib.hid hr1
        have HB1 := Lib.hid hb1
        have hn0' : ((n1 : Int) == 0) = false := by simp; omega
        clear hx1 hx2 hL1 hn1 ho1 hr1 hb1 HC HPO HPM HFT
        go_wp2
        go_loopw [12] (fun q w2 => ∃ k : Nat, q = .int .i64 k ∧ k ≤ n1 ∧ w2 = w1) (fun q _ => n1 - (intOf q).toNat)
        case atStart => exact ⟨0, rfl, Nat.zero_le _, rfl⟩
        case round =>
          obtain ⟨k, rfl, hk, hww⟩ := hrel
          replace hww := hww.symm
          subst hww
          by_cases hkn : k < n1
          · have hkl : k < L1.length := by rw [HN1.out]; exact hkn
            obtain ⟨ad', e', hab1, hcell1⟩ := (Rd.of_own HO1.out).row hkl
            injection e' with e'
            subst e'
            obtain ⟨hf1, hf2⟩ := HFI.out k hkl
            obtain ⟨⟨qA, qn, qc, qb⟩, hq⟩ : ∃ r, L1[k] = r := ⟨_, rfl⟩
            rw [hq] at hcell1 hf1 hf2
            simp only at hcell1 hf1 hf2
            clear hq hkl HI HPE HRE HL1 HFI
            by_cases hlast : k + 1 < n1
            · have hq' := hf2 hlast
              subst hq'
              clear hf2 hf1
              have hlI : (k : Int) + 1 < (n1 : Int) := by omega
              go_wp2
              go_roundw
              case rel => exact ⟨k + 1, by go_num, by omega, by first | rfl | trivial⟩
              case measure => simp [intOf]; omega
            · clear hf2
              have hlI : ¬ ((k : Int) + 1 < (n1 : Int)) := by omega
              have hfI : ¬ (R : Int) < (qn : Int) := by omega
              go_wp2
              go_roundw
              case rel => exact ⟨k + 1, by go_num, by omega, by first | rfl | trivial⟩
              case measure => simp [intOf]; omega
          · obtain rfl : n1 = k := by omega
            clear hkn hk hn0' HFI
            have hpT : p < (L.map (·.bs)).length := by rw [List.length_map]; exact HPL.out
            have HLL : Hid (L1.map (·.bs) = Frm.cutF R 1 0#32 (L.map (·.bs))[p]) := Lib.hid (by
              rw [HL1.out, HPE.out]
              congr 1
              rw [List.getElem_map]
              exact (HRE.out HPL.out).symm)
            obtain ⟨nb, hnb⟩ : ∃ nb, na + n1 = nb := ⟨_, rfl⟩
            have HNB := Lib.hid hnb
            have hnbm : nb ≤ 201 * (p + 1) := by omega
            have hsz0 := HI.out.sts.below.size
            have hsz1 := HB1.out.size
            have hwz : w.heap.size ≤ w1.heap.size := by omega
            have HOL : Hid (w1.ownsRow w.heap.size 26 1 (.slice Aa na ca) na (M.map RowB.v)) := Lib.hid (own_via HI.out.sts.own HB1.out)
            have HRD := Lib.hid (Rd.of_own HO1.out)
            have HLN : Hid ((L1.map RowB.v).length = n1) := Lib.hid (by rw [List.length_map]; exact HN1.out)
            have HEN := Lib.hid fun A2 c2 w2 (ho : w2.ownsRow w.heap.size 26 1 (.slice A2 nb c2) nb (M.map RowB.v ++ L1.map RowB.v)) (hg : w1.grownBy w2 (Value.slice Aa na ca).ownBlock) => own_same (own_via HI.out.ends HB1.out) (Same.grown HOL.out hg (ts := [26]) (by simp)) (by decide)
            have HPU := Lib.hid fun A2 c2 w2 A3 c3 w3 ho2 hg2 hb2 ho3 hg3 hb3 => HI.out.step (A2 := A2) (nb := nb) (c2 := c2) (w2 := w2) (A3 := A3) (c3 := c3) (w3 := w3) hpT hnb HLL.out HN1.out HR1.out HB1.out ho2 hg2 hb2 ho3 hg3 hb3
            clear hsz0 hsz1 HI HPE HRE HL1 HLL hpT
            go_wp2_with (first
              | (at_builtin; refine appR _ rfl (.tmp 92) (.tmp 93) rfl w.heap.size Aa na ca (M.map RowB.v) rfl HOL.out _ (some ad1) n1 c1 (L1.map RowB.v) rfl HLN.out HRD.out one_rows (by omega) hwz ?_; intro A4 c4 w4 ho4 hg4 hb4; rw [hnb] at ho4 ⊢; have HE4 := Lib.hid (HEN.out A4 c4 w4 ho4 hg4); have HO4 := Lib.hid ho4; have HG4 := Lib.hid hg4; have HB4 := Lib.hid hb4; have hz4 := hb4.size; clear ho4 hg4 hb4)
              | (at_builtin; refine appI _ rfl (.tmp 95) (.tmp 98) rfl w.heap.size Ae p ce ((Frm.endsL R (L.map (·.bs)) p).map (Value.int .i64)) rfl (own_via HE4.out ((Below.refl _ _).alloc (Nat.le_refl _) _)) _ (some ⟨w4.heap.size, 0, none⟩) 1 1 [.int .i64 (nb : Int)] rfl rfl (Rd.new w4 _ _ _ rfl) (by intro u hu; rw [List.mem_singleton] at hu; subst hu; rfl) (by omega) (by simp; omega) ?_; intro A5 c5 w5 ho5 hg5 hb5; have HI5 := Lib.hid (HPU.out A4 c4 w4 A5 c5 w5 HO4.out HG4.out HB4.out ho5 hg5 hb5); clear ho5 hg5 hb5))
            go_roundw
            case rel => exact ⟨p + 1, A4, nb, c4, A5, c5, M ++ L1, by go_num, by omega, by first | rfl | trivial, by first | rfl | trivial, hnbm, HI5⟩
            case measure => simp [intOf]; omega
    · obtain rfl : p = n := by omega
      obtain ⟨K, hK, hKn⟩ := clampM at_ na
      go_upto_region 20 with fail
      go_cut [13] (fun k wx => k = .int .i64 (K : Int) ∧ wx = wr)
      case first =>
        have hK' := hK.out
        clear hK HI
        go_wp2_with fail
        all_goals (go_meet; exact ⟨int_eq (by omega), rfl⟩)
      case rest =>
      obtain ⟨rfl, hwx⟩ := hcut
      replace hwx := hwx.symm
      subst hwx
      clear hK hlt hp
      have HOE := Lib.hid (Rd.of_own HI.out.ends)
      have HW0 : Hid (Frm.whole R ((L.map (·.bs)).take 0) K = (0, 0)) := Lib.hid (by rw [List.take_zero, Frm.whole])
      go_wp2
      go_loopw [14, 15, 16] (fun wh us i w2 => ∃ (q a b : Nat), i = .int .i64 q ∧ q ≤ p ∧ wh = .int .i64 a ∧ us = .int .i64 b ∧ a ≤ q ∧ w2 = wr ∧ Hid (Frm.whole R ((L.map (·.bs)).take q) K = (a, b))) (fun _ _ i _ => p - (intOf i).toNat)
      case atStart => exact ⟨0, 0, 0, rfl, Nat.zero_le _, rfl, rfl, Nat.le_refl _, rfl, HW0⟩
      case round =>
        clear HW0
        obtain ⟨q, a, b, rfl, hq, rfl, rfl, haq, rfl, HW⟩ := hrel
        by_cases hqn : q < p
        · obtain ⟨ade, e', _, hce⟩ := rd_i64 HOE.out (k := q) (by rw [Frm.endsL_length]; exact hqn)
          subst e'
          rw [Frm.endsL_get] at hce
          have HS := Lib.hid (Frm.whole_step R (L.map (·.bs)) q K (by rw [List.length_map, HL.out]; exact hqn))
          generalize Frm.endC R (L.map (·.bs)) q = x at *
          by_cases hx : x ≤ K
          · have HW2 : Hid (Frm.whole R ((L.map (·.bs)).take (q + 1)) K = (q + 1, x)) := Lib.hid (by rw [HS.out, if_pos hx])
            clear HS HI
            go_wp2
            go_roundw
            case rel => exact ⟨q + 1, q + 1, x, by go_num, by omega, by go_num, by first | rfl | trivial, Nat.le_refl _, by first | rfl | trivial, HW2⟩
            case measure => simp [intOf]; omega
          · have HW2 : Hid (Frm.whole R ((L.map (·.bs)).take (q + 1)) K = (a, b)) := Lib.hid (by rw [HS.out, if_neg hx, HW.out])
            clear HS HI
            go_wp2
            go_roundw
            case rel => exact ⟨q + 1, a, b, by go_num, by omega, by first | rfl | trivial, by first | rfl | trivial, by omega, by first | rfl | trivial, HW2⟩
            case measure => simp [intOf]; omega
        · obtain rfl : q = p := by omega
          have hTl : (L.map (·.bs)).take q = L.map (·.bs) := List.take_of_length_le (by rw [List.length_map, HL.out]; exact Nat.le_refl _)
          have hwq := HW.out
          rw [hTl] at hwq
          have hbs := HI.out.bs
          rw [hTl] at hbs
          have hfl : (Frm.flatC R (L.map (·.bs))).length = na := by rw [← hbs, List.length_map, HI.out.len]
          obtain ⟨ht1, ht2⟩ := Frm.torn_all R hR1 (by omega) (L.map (·.bs)) K
          have hbK := Frm.whole_le R (L.map (·.bs)) K (by omega)
          rw [hwq] at ht1 ht2 hbK
          simp only at ht1 ht2 hbK
          rw [← hbs] at ht1 ht2
          have hft := Frm.flat_fits R hR1 (L.map (·.bs))
          rw [← hbs] at hft
          have hcap := own_cap HI.out.sts.own
          have hca := hcap.1
          have hcb := hcap.2
          have hMr : ∀ r ∈ M, r.n ≤ 1000000 := by
            intro r hr
            rw [← (HI.out.sts.rows.at r hr).len]
            have := hft r.bs (List.mem_map_of_mem hr)
            omega
          have HRD := Lib.hid fun W (h : Below wr.heap.size wr W) => Rd.of_own (own_via HI.out.sts.own h)
          have HRR := Lib.hid fun W (h : Below wr.heap.size wr W) => (HI.out.sts.rows.below h).at
          have HAL := Lib.hid (frmAll Aa K ca (M.take K) wr (by rw [List.map_take]; exact (HRD.out wr (Below.refl _ _)).take K) (rows_takeR (HRR.out wr (Below.refl _ _)) K) (by rw [List.length_take, HI.out.len]; omega) (by omega) hcb (by omega) (fun r hr => hMr r (List.mem_of_mem_take hr)))
          rw [List.map_take, ht1] at HAL
          have HJN := Lib.hid fun W (h : Below wr.heap.size wr W) => frmJoin (cut Aa ca b) (K - b) (ca - b) ((M.take K).drop b) W (by
            rw [List.map_drop, List.map_take]
            exact ((HRD.out W h).take K).cut (by rw [List.length_take, List.length_map, HI.out.len]; omega) (by rw [List.length_take, List.length_map, HI.out.len]; omega)) (rows_dropR (rows_takeR (HRR.out W h) K) b) (by rw [List.length_drop, List.length_take, HI.out.len]; omega) (by omega) (fun r hr => hMr r (List.mem_of_mem_take (List.mem_of_mem_drop hr)))
          rw [List.map_drop, List.map_take] at HJN
          generalize Frm.joinF 0 0#32 [] (((M.map (·.bs)).take K).drop b) = J at *
          obtain ⟨J1, J2, J3⟩ := J
          simp only at ht2
          subst ht2
          have hs1 := fun V : World => run_cut_to (P := Try.prog) 33 26 Try.underlying33 sizeRow Aa na ca K .i64 (by omega) V
          have hs2 := fun V : World => run_cut_both (P := Try.prog) 33 26 Try.underlying33 sizeRow Aa na ca b K .i64 .i64 hbK (by omega) V
          have hs3 := fun V : World => run_cut_to (P := Try.prog) 33 26 Try.underlying33 sizeRow A q c a .i64 (by omega) V
          have HBW := Lib.hid HI.out.sts.below
          have hqm : na ≤ 1608 := by omega
          clear HRD HRR hMr hcap hft ht1 hfl hbs hwq hTl HW HI HOE
          go_wp2_with fail
          refine HAL.out.mono ?_
          rintro e w2 ⟨A6, n6, c6, L6, rfl, hl6, hn6, ho6, hR6, hb6⟩
          have HB2 := Lib.hid hb6
          have HL6 := Lib.hid hl6
          have HN6 := Lib.hid hn6
          have HO6 := Lib.hid ho6
          have HR6 := Lib.hid hR6
          clear hl6 hn6 ho6 hR6 hb6 HAL
          go_wp2_with fail
          refine (HJN.out w2 HB2.out).mono ?_
          rintro e w3 ⟨A7, n7, c7, rfl, _, _, hb7⟩
          have HB3 := Lib.hid (HBW.out.via (HB2.out.via hb7))
          have hm6 := own_cap HO6.out
          have HS := Lib.hid (refSame5 L6 (L.take a) w3.heap.size A6 A n6 c6 a c w3 (Rd.of_own (own_via HO6.out hb7)) ((HR6.out.below hb7).at) (by rw [List.map_take]; exact ((HP.out.below HB3.out).more HB3.out.size).take a) (rows_takeR ((HPR.out.below HB3.out).more HB3.out.size) a) HN6.out (by rw [List.length_take, HL.out]; omega) (Nat.le_refl _) (by omega) (by unfold maxLen; omega))
          have HE : Hid (bss L6 = bss (L.take a)) := Lib.hid (by
            unfold bss
            rw [HL6.out, List.map_take])
          clear hm6 hb7 HB2 HL6 HN6 HO6 HR6 HJN HP HPR HL
          go_wp2_with fail
          refine HS.out.mono ?_
          rintro e w8 ⟨⟨x, rfl, hx8⟩, hb8⟩
          obtain rfl : x = true := hx8.2 HE.out
          have HB8 := Lib.hid (HB3.out.via hb8)
          clear hx8 hb8 HS HE
          go_wp2_with fail
          refine (HFR.out w8).mono ?_
          rintro e w9 ⟨rfl, hb9⟩
          have HB9 := Lib.hid (HB8.out.via hb9)
          clear hb9
          go_wp2
          go_ret
          exact ⟨rfl, HB9.out⟩
end Cib
