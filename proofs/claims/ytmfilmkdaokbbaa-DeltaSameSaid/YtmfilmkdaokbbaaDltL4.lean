/- The law DeltaSame. -/
import Derived.Test.YtmfilmkdaokbbaaDltZ
set_option linter.unusedVariables false
set_option linter.unusedSimpArgs false
set_option maxRecDepth 100000
namespace Cib
open Go Go.RowKit Go.Proofs
set_option maxHeartbeats 3200000 in
theorem lawSame (k m wd : Int) (Al : Option Addr) (cl : Nat) (l : List StepV) (w : World) (hk : -9223372036854775808 ≤ k ∧ k ≤ 9223372036854775807) (hm : -9223372036854775808 ≤ m ∧ m ≤ 9223372036854775807) (hwd : -9223372036854775808 ≤ wd ∧ wd ≤ 9223372036854775807)
    (hr : Rd w w.heap.size Al (l.map stepRow).flatten) (hcl : l.length ≤ cl) (hclm : cl ≤ maxLen) (hok : ∀ x ∈ l, x.ok w w.heap.size) :
    Calls Try.prog 5 #[.int .i64 k, .int .i64 m, .int .i64 wd, .slice Al l.length cl] w fun e w' => e = .returned (.bool true) ∧ Below w.heap.size w w' := by
  have hnbm : l.length ≤ 9223372036854775807 := Nat.le_trans hcl hclm
  obtain ⟨nl, hnl⟩ : ∃ nl, l.length = nl := ⟨_, rfl⟩
  rw [hnl] at hnbm hcl ⊢
  by_cases hmay : mayC k m
  · obtain ⟨hm1, hm2, hm3, hm4⟩ := hmay
    obtain ⟨k, rfl⟩ : ∃ n : Nat, k = (n : Int) := ⟨k.toNat, by omega⟩
    obtain ⟨m, rfl⟩ : ∃ n : Nat, m = (n : Int) := ⟨m.toNat, by omega⟩
    have hs : k + m ≤ 255 := by omega
    have hwkm : IntKind.i64.wrap ((k : Int) + (m : Int)) = (k : Int) + (m : Int) := by rw [IntKind.wrap_i64]; omega
    have HN := Lib.hid (fun V h => cdNew w.heap.size k m (by omega) (by omega) hs V h)
    by_cases h24 : 24 < (k : Int) + m
    · clear hr hclm hok hk hm hnl
      go_enter Try.func5, Try.ntmps5
      go_wp2_with fail
      refine (fldNewA _).mono ?_
      rintro e w1 ⟨rfl, hf, hz, hb0⟩
      have hb1 := hb0 w.heap.size w (Nat.le_refl _) (Below.refl _ _)
      clear hb0 hz
      go_wp2_with fail
      refine (HN.out w1 hf).mono ?_
      rintro e w2 ⟨g, A1, c1, rfl, hg, hC, hs2⟩
      have HB2 := Lib.hid (hs2.below hb1 (Nat.le_refl _) hb1.size)
      have HC2 := Lib.hid hC
      clear hs2 hb1 hg hC hf
      go_wp2_with fail
      refine (goes _).mono ?_
      rintro e w5 ⟨rfl, hb5⟩
      have HB5 := Lib.hid (HB2.out.via hb5)
      clear hb5
      go_wp2
      go_ret
      exact ⟨rfl, HB5.out⟩
    · by_cases hw0 : wd < 0
      · clear hr hclm hok hk hm hnl
        go_enter Try.func5, Try.ntmps5
        go_wp2_with fail
        refine (fldNewA _).mono ?_
        rintro e w1 ⟨rfl, hf, hz, hb0⟩
        have hb1 := hb0 w.heap.size w (Nat.le_refl _) (Below.refl _ _)
        clear hb0 hz
        go_wp2_with fail
        refine (HN.out w1 hf).mono ?_
        rintro e w2 ⟨g, A1, c1, rfl, hg, hC, hs2⟩
        have HB2 := Lib.hid (hs2.below hb1 (Nat.le_refl _) hb1.size)
        have HC2 := Lib.hid hC
        clear hs2 hb1 hg hC hf
        go_wp2_with fail
        refine (goes _).mono ?_
        rintro e w5 ⟨rfl, hb5⟩
        have HB5 := Lib.hid (HB2.out.via hb5)
        clear hb5
        go_wp2
        go_ret
        exact ⟨rfl, HB5.out⟩
      · by_cases hw2 : 200 < wd
        · clear hr hclm hok hk hm hnl
          go_enter Try.func5, Try.ntmps5
          go_wp2_with fail
          refine (fldNewA _).mono ?_
          rintro e w1 ⟨rfl, hf, hz, hb0⟩
          have hb1 := hb0 w.heap.size w (Nat.le_refl _) (Below.refl _ _)
          clear hb0 hz
          go_wp2_with fail
          refine (HN.out w1 hf).mono ?_
          rintro e w2 ⟨g, A1, c1, rfl, hg, hC, hs2⟩
          have HB2 := Lib.hid (hs2.below hb1 (Nat.le_refl _) hb1.size)
          have HC2 := Lib.hid hC
          clear hs2 hb1 hg hC hf
          go_wp2_with fail
          refine (goes _).mono ?_
          rintro e w5 ⟨rfl, hb5⟩
          have HB5 := Lib.hid (HB2.out.via hb5)
          clear hb5
          go_wp2
          go_ret
          exact ⟨rfl, HB5.out⟩
        · by_cases hl4 : 40 < nl
          · clear hr hclm hok hk hm hnl
            go_enter Try.func5, Try.ntmps5
            go_wp2_with fail
            refine (fldNewA _).mono ?_
            rintro e w1 ⟨rfl, hf, hz, hb0⟩
            have hb1 := hb0 w.heap.size w (Nat.le_refl _) (Below.refl _ _)
            clear hb0 hz
            go_wp2_with fail
            refine (HN.out w1 hf).mono ?_
            rintro e w2 ⟨g, A1, c1, rfl, hg, hC, hs2⟩
            have HB2 := Lib.hid (hs2.below hb1 (Nat.le_refl _) hb1.size)
            have HC2 := Lib.hid hC
            clear hs2 hb1 hg hC hf
            go_wp2_with fail
            refine (goes _).mono ?_
            rintro e w5 ⟨rfl, hb5⟩
            have HB5 := Lib.hid (HB2.out.via hb5)
            clear hb5
            go_wp2
            go_ret
            exact ⟨rfl, HB5.out⟩
          · obtain ⟨W, rfl⟩ : ∃ n : Nat, wd = (n : Int) := ⟨wd.toNat, by omega⟩
            have hW : W ≤ 200 := by omega
            have HR := Lib.hid hr
            have HOK := Lib.hid hok
            have HNL := Lib.hid hnl
            have hk0 : 1 ≤ k := by omega
            have hmk := makeR k k (Nat.le_refl _) (by omega)
            have hmkb := makeB W (by omega)
            clear hr hclm hok hk hm hnl hwd
            go_enter Try.func5, Try.ntmps5
            go_wp2_with fail
            refine (fldNewA _).mono ?_
            rintro e w1 ⟨rfl, hf, hz, hb0⟩
            have hb1 := hb0 w.heap.size w (Nat.le_refl _) (Below.refl _ _)
            clear hb0 hz
            go_wp2_with fail
            refine (HN.out w1 hf).mono ?_
            rintro e w2 ⟨g, A1, c1, rfl, hg, hC, hs2⟩
            have HB2 := Lib.hid (hs2.below hb1 (Nat.le_refl _) hb1.size)
            have HC2 := Lib.hid hC
            clear hs2 hb1 hg hC hf
            have HCC := Lib.hid HC2.out.blk.lt
            obtain ⟨gd, hgd⟩ : ∃ gd, w2.heap.size = gd := ⟨_, rfl⟩
            have HGD := Lib.hid hgd
            go_wp2
            go_loopw [11] (fun i wr => ∃ (p : Nat) (L : List RowB), i = .int .i64 p ∧ p ≤ k ∧ Hid (DatI w2 gd k k L wr) ∧ Hid (∀ j (h : j < L.length), j < p → L[j].n = W)) (fun i _ => k - (intOf i).toNat)
            case atStart =>
              refine ⟨0, List.replicate k ⟨none, 0, 0, []⟩, rfl, Nat.zero_le _, ⟨?_, fun r hr => ?_, (Below.refl _ _).alloc (Nat.le_refl _) _⟩, fun j _ h => absurd h (Nat.not_lt_zero _)⟩
              · have := own_made w2 w2.heap.size 22 (.slice none 0 0) k k (Nat.le_refl _) (Nat.le_refl _) (by unfold maxLen; omega)
                rw [hgd] at this
                rw [List.map_replicate, hgd]
                exact this
              · rw [List.eq_of_mem_replicate hr]
                exact World.ownsRow_nil _ _ _ _
            case round =>
              obtain ⟨p, L, rfl, hp, HI, HF⟩ := hrel
              have HLL := Lib.hid HI.out.len
              by_cases hlt : p < k
              · have hpl : p < L.length := by rw [HLL.out]; exact hlt
                obtain ⟨hc1, hf1⟩ := (HI.out.via ((Below.refl wr.heap.size wr).alloc (Nat.le_refl _) (.cells (madeCells #[.int .u8 0] W) 5))).cell hpl
                have HPUT := Lib.hid ((HI.out.via ((Below.refl wr.heap.size wr).alloc (Nat.le_refl _) (.cells (madeCells #[.int .u8 0] W) 5))).put hpl ⟨some ⟨wr.heap.size, 0, none⟩, W, W, List.replicate W 0⟩ (by
                  have := own_made wr w2.heap.size 5 (.int .u8 0) W W HI.out.below.size (Nat.le_refl _) (by unfold maxLen; omega)
                  rw [List.map_replicate]
                  exact this) 0)
                have HF2 : Hid (∀ j (h : j < (L.set p (⟨some ⟨wr.heap.size, 0, none⟩, W, W, List.replicate W 0⟩ : RowB)).length), j < p + 1 → (L.set p (⟨some ⟨wr.heap.size, 0, none⟩, W, W, List.replicate W 0⟩ : RowB))[j].n = W) := fun j h hj => by
                  rw [List.getElem_set]
                  split
                  · rfl
                  · rw [List.length_set] at h
                    exact HF.out j h (by omega)
                clear HI HF
                go_wp2
                go_roundw
                case rel => exact ⟨p + 1, _, by go_num, hlt, HPUT, HF2⟩
                case measure => simp [intOf]; omega
              · obtain rfl : p = k := by omega
                have HWD : Hid (∀ r ∈ L, r.n = W) := fun r hr => by
                  obtain ⟨j, hj, rfl⟩ := List.mem_iff_getElem.1 hr
                  exact HF.out j hj (by rw [← HLL.out]; exact hj)
                have HEV := Lib.hid (bss_wid (W := W) (fun r hr => by rw [(HI.out.at r hr).len, HWD.out r hr]) (by rw [HLL.out]; omega))
                have HEN := Lib.hid (cdEncode (HC2.out.below HI.out.below) L wr.heap.size (some ⟨gd, 0, none⟩) p (Rd.of_own HI.out.own) HI.out.at (Nat.le_refl _) HLL.out HEV.out.1 (fun r hr => by rw [HWD.out r hr]; omega))
                clear HF hmk
                go_wp2_with fail
                refine HEN.out.mono ?_
                rintro e w4 ⟨A4, n4, c4, P, rfl, hP, hn4, ho4, hR4, hb4⟩
                obtain rfl : n4 = m := by
                  have := congrArg List.length hP
                  rw [List.length_map, Cod.pars_length] at this
                  omega
                have hgdlt : gd + 1 ≤ wr.heap.size := (HI.out.own.lt _ rfl).2
                have HS4 : Hid (SamI w2 (gd + 1) gd p n4 W p L A4 c4 P w4) := ⟨HI.out.via hb4, HWD.out, own_lower1 ho4 hgdlt, fun r hr => own_lower1 (hR4.own r hr) HI.out.below.size, hP⟩
                clear hP hn4 ho4 hR4 hb4 HI HWD HEV HEN hgdlt HLL
                go_wp2
                go_loopw [12, 14, 15, 16, 17, 18, 19] (fun pv i _ _ _ _ _ wr => ∃ (t : Nat) (A' : Option Addr) (c' : Nat) (L P : List RowB), pv = .slice A' n4 c' ∧ i = .int .i64 t ∧ t ≤ nl ∧ Hid (SamI w2 (gd + 1) gd p n4 W p L A' c' P wr)) (fun _ i _ _ _ _ _ _ => nl - (intOf i).toNat)
                case atStart => exact ⟨0, A4, c4, L, P, rfl, rfl, Nat.zero_le _, HS4⟩
                case round =>
                  clear HS4
                  obtain ⟨t, A', c', L, P, rfl, rfl, ht, HS⟩ := hrel
                  have HLL := Lib.hid HS.out.dat.len
                  by_cases hlt : t < nl
                  · have htl : t < l.length := by rw [HNL.out]; exact hlt
                    obtain ⟨bb, off, rfl, hbb, hcJ, hcR⟩ := step_at (HR.out.below (HB2.out.trans (HS.out.dat.below.mono HB2.out.size))) htl
                    obtain ⟨hJ, hxr⟩ := HOK.out _ (List.getElem_mem htl)
                    have HXR := Lib.hid hxr
                    clear hxr
                    generalize l[t] = x at *
                    obtain ⟨J, ⟨rA, rn, rc, rb⟩⟩ := x
                    simp only [RowB.v] at hcJ hcR hJ
                    obtain ⟨at_, hat⟩ : ∃ q : Nat, max 0 (min J ((p : Int) - 1)) = (q : Int) := ⟨(max 0 (min J ((p : Int) - 1))).toNat, by omega⟩
                    have hat1 : at_ < p := by omega
                    have HAT := Lib.hid hat
                    clear hat
                    go_upto_region 15 with fail
                    go_cut [15] (fun x wx => x = .int .i64 (at_ : Int) ∧ wx = wr)
                    case first =>
                      go_wp2
                      all_goals
                        go_meet
                        exact ⟨int_eq (by have := HAT.out; omega), rfl⟩
                    case rest =>
                      obtain ⟨rfl, hwx⟩ := hcut
                      replace hwx := hwx.symm
                      subst hwx
                      clear HAT
                      obtain ⟨wo, hwo⟩ : ∃ v, v = wr := ⟨_, rfl⟩
                      subst hwo
                      have hcR2 := Lib.hid hcR
                      clear hcJ hcR
                      go_wp2
                      go_loopw [17] (fun i wv => ∃ (q : Nat) (N : List UInt8), i = .int .i64 q ∧ q ≤ W ∧ Hid (N.length = W) ∧ Hid (wv.ownsRow wo.heap.size 5 1 (.slice (some ⟨wo.heap.size, 0, none⟩) W W) W (N.map bv)) ∧ Hid (Below wo.heap.size wo wv)) (fun i _ => W - (intOf i).toNat)
                      case atStart =>
                        refine ⟨0, List.replicate W 0, rfl, Nat.zero_le _, List.length_replicate .., ?_, (Below.refl _ _).alloc (Nat.le_refl _) _⟩
                        have := own_made wo wo.heap.size 5 (.int .u8 0) W W (Nat.le_refl _) (Nat.le_refl _) (by unfold maxLen; omega)
                        rw [List.map_replicate]
                        exact this
                      case round =>
                        obtain ⟨q, N, rfl, hq, HNN, HO, HBV⟩ := hrel
                        have hcv : wr.cell? ⟨bb, off + t * 2 + 1, none⟩ = some (.slice rA rn rc) := (HBV.out.cell (p := ⟨bb, off + t * 2 + 1, none⟩) (block_lt_of_cell hcR2.out)).trans hcR2.out
                        by_cases hgo : q < W ∧ q < rn
                        · obtain ⟨hq1, hq2⟩ := hgo
                          have hqb : q < rb.length := by have := HXR.out.len; simp only at this; omega
                          obtain ⟨adr, rfl, _, hcb⟩ := ((HXR.out.rd.below (HB2.out.trans (HS.out.dat.below.mono HB2.out.size))).below ((HBV.out.mono (Nat.le_trans HB2.out.size HS.out.dat.below.size)))).byte hqb
                          have hqN : q < N.length := by rw [HNN.out]; exact hq1
                          obtain ⟨hc1, hc2, hc3⟩ := own_byte HO.out hqN
                          have HO2 := Lib.hid (hc3 rb[q] 0)
                          generalize rb[q] = z at *
                          clear hc3
                          go_wp2
                          go_roundw
                          case rel => exact ⟨q + 1, N.set q z, by go_num, hq1, (show _ = _ by rw [List.length_set]; exact HNN.out), HO2, HBV.out.setCell (p := ⟨wo.heap.size, q, none⟩) (Nat.le_refl _) _⟩
                          case measure => simp [intOf]; omega
                        · have HCV := Lib.hid (HC2.out.below (HS.out.dat.below.via HBV.out))
                          have HSV := Lib.hid (HS.out.via HBV.out)
                          have hjl : at_ < L.length := by rw [HLL.out]; exact hat1
                          obtain ⟨hd1, hd2⟩ := HSV.out.dat.cell hjl
                          have hrn := HSV.out.wid _ (List.getElem_mem hjl)
                          have hra := HSV.out.dat.at.get hjl
                          have HUP := Lib.hid (fun c0 => dlUpdate HCV.out at_ hat1 wr.heap.size L[at_].A (some ⟨wo.heap.size, 0, none⟩) W L[at_].c c0 L[at_].bs N hra.rd (Rd.of_own HO.out) (by rw [hra.len]; exact hrn) HNN.out (Nat.le_refl _) (by omega) P A' c' (Rd.of_own HSV.out.par) HSV.out.pat HSV.out.plen (HSV.out.pwid hk0))
                          have HST := Lib.hid (fun A5 c5 P5 (w5 : World) hb hn hp hr hP => HS.out.step (A' := A5) (c3 := c5) (P' := P5) (w' := w5) hk0 hjl hb ⟨some ⟨wo.heap.size, 0, none⟩, W, W, N⟩ hn rfl (Nat.lt_succ_self _) hp hr hP 0)
                          have HGL := Lib.hid ((HSV.out.dat.own.lt _ rfl).2)
                          have HGB := Lib.hid ((HSV.out.dat.own.lt _ rfl).1)
                          simp only [RowB.v] at hd1
                          rw [hrn] at hd1
                          generalize L[at_] = r at *
                          obtain ⟨oA, on_, oc, ob⟩ := r
                          simp only at hrn hd1 HUP HST
                          subst hrn
                          clear hra
                          have hsz := HBV.out.size
                          by_cases hq1 : q < on_
                          all_goals
                            first
                            | (have hq2 : ¬ q < rn := fun h => hgo ⟨hq1, h⟩)
                            | skip
                            clear hgo
                            go_wp2_with fail
                            refine (HUP.out _).mono ?_
                            rintro e w5 ⟨A5, n5, c5, P5, rfl, hP5, hn5, ho5, hR5, hb5⟩
                            obtain rfl : n5 = n4 := by
                              have := congrArg List.length hP5
                              rw [List.length_map] at this
                              unfold Dlt.upd at this
                              rw [Dlt.adds_length] at this
                              omega
                            have HSN := Lib.hid (HST.out A5 c5 P5 w5 (HBV.out.trans (hb5.mono HBV.out.size)) (own_lower1 (own_via HO.out hb5) HS.out.dat.below.size) (own_lower1 ho5 HGL.out) (fun r hr => own_lower1 (hR5.own r hr) HSV.out.dat.below.size) hP5)
                            have hk1 : w5.cell? ⟨gd, at_, none⟩ = some (.slice oA on_ oc) := (hb5.cell (p := ⟨gd, at_, none⟩) HGL.out).trans hd1
                            have hk2 : w5.frozen? ⟨gd, at_, none⟩ = false := (hb5.frozen (p := ⟨gd, at_, none⟩) HGL.out).trans hd2
                            clear hP5 hn5 ho5 hR5 hb5 HST HUP
                            go_wp2
                            go_roundw
                            case rel => exact ⟨t + 1, A5, c5, _, P5, rfl, by go_num, hlt, HSN⟩
                            case measure => simp [intOf]; omega
                  · obtain rfl : t = nl := by omega
                    have HCV := Lib.hid (HC2.out.below HS.out.dat.below)
                    have HEV := Lib.hid (HS.out.evn hk0)
                    have HEN := Lib.hid (cdEncode HCV.out L wr.heap.size (some ⟨gd, 0, none⟩) p (Rd.of_own HS.out.dat.own) HS.out.dat.at (Nat.le_refl _) HLL.out HEV.out.1 (fun r hr => by rw [HS.out.wid r hr]; omega))
                    clear hmkb
                    go_wp2_with fail
                    refine HEN.out.mono ?_
                    rintro e w8 ⟨A8, n8, c8, Q, rfl, hQ, hn8, ho8, hR8, hb8⟩
                    obtain rfl : n8 = n4 := by
                      have := congrArg List.length hQ
                      rw [List.length_map, Cod.pars_length] at this
                      omega
                    have HS8 := Lib.hid (HS.out.via hb8)
                    have HQ : Hid (bss Q = Cod.pars p (bss L) n8) := hQ
                    have HQN := Lib.hid hn8
                    have HQO := Lib.hid ho8
                    have HQR := Lib.hid hR8.at
                    clear hQ hn8 ho8 hR8 hb8 HS HEN HCV
                    have HSL := Lib.hid (Rd.of_own HS8.out.dat.own)
                    have HSP := Lib.hid (Rd.of_own HS8.out.par)
                    have HPL := Lib.hid HS8.out.plen
                    go_wp2_with (first | (at_builtin; refine appR _ rfl (.tmp 137) (.tmp 138) rfl w8.heap.size none 0 0 [] rfl (World.ownsRow_nil _ _ _ _) w8.heap.size (some ⟨gd, 0, none⟩) p p (L.map RowB.v) rfl (by rw [List.length_map]; exact HLL.out) HSL.out one_rows (by omega) (Nat.le_refl _) ?_; intro A9 c9 w9 ho9 hg9 hb9; rw [Nat.zero_add, List.nil_append] at ho9; rw [Nat.zero_add]; have HO9 := Lib.hid ho9; have HB9 := Lib.hid hb9; clear ho9 hg9 hb9) | (at_builtin; refine appR _ rfl (.tmp 139) (.tmp 140) rfl w8.heap.size A9 p c9 (L.map RowB.v) rfl HO9.out w8.heap.size A' n8 c' (P.map RowB.v) rfl (by rw [List.length_map]; exact HPL.out) (HSP.out.below HB9.out) one_rows (by omega) HB9.out.size ?_; intro A10 c10 w10 ho10 hg10 hb10))
                    have HB10 := Lib.hid (HB9.out.trans hb10)
                    have hcap := own_cap ho10
                    rw [← List.map_append] at ho10
                    have HO10 := Lib.hid ho10
                    have HP8 := Lib.hid HS8.out.pat
                    have HD8 := Lib.hid HS8.out.dat.at
                    have HZ10 := Lib.hid HB10.out.size
                    have HSM := Lib.hid (refSame5 P Q w8.heap.size A' A8 n8 c' n8 c8 w10 (HSP.out.below HB10.out) (HP8.out.below HB10.out) ((Rd.of_own HQO.out).below HB10.out) (HQR.out.below HB10.out) HPL.out HQN.out HZ10.out (by unfold maxLen; omega) (by unfold maxLen; omega))
                    clear ho10 hg10 hb10 HO9 HB9
                    go_wp2_with fail
                    refine HSM.out.mono ?_
                    rintro e w11 ⟨⟨x, rfl, hx⟩, hb11⟩
                    obtain rfl : x = true := by rw [hx, HQ.out, HS8.out.pbs]
                    have HB11 := Lib.hid (HB10.out.trans (hb11.mono HZ10.out))
                    have hall : bss (L ++ P) = Cod.shards p (bss L) (p + n8) := by
                      rw [show bss (L ++ P) = bss L ++ bss P by simp [bss], HS8.out.pbs]
                      exact Cod.shards_data (by simpa [bss] using HLL.out) HEV.out.1
                    have hwid : ∀ r ∈ L ++ P, r.bs.length = W ∧ r.n = W := fun r hr => by
                      rcases List.mem_append.1 hr with h | h
                      · exact ⟨HS8.out.bl r h, HS8.out.wid r h⟩
                      · exact ⟨by rw [(HP8.out r h).len]; exact HS8.out.pwid hk0 r h, HS8.out.pwid hk0 r h⟩
                    have hlen : (L ++ P).length = p + n8 := by rw [List.length_append, HLL.out, HPL.out]
                    have HOF := dlOff (HC2.out.below (HS8.out.dat.below.trans (HB11.out.mono HS8.out.dat.below.size))) (L ++ P) w11.heap.size A10 (p + n8) c10 ((Rd.of_own HO10.out).below hb11 |>.more hb11.size) (fun r hr => by
                      rcases List.mem_append.1 hr with h | h
                      · exact ((HD8.out r h).below HB11.out).more HB11.out.size
                      · exact ((HP8.out r h).below HB11.out).more HB11.out.size) (Nat.le_refl _) hlen hcap.1 hcap.2 (fun r hr => by rw [(hwid r hr).2]; omega) rfl (bss_wid (fun r hr => (hwid r hr).1) (by rw [hlen]; omega)).1
                    rw [hall, off_none (by simpa [bss] using HLL.out) HEV.out.1 n8 (Nat.le_refl _)] at HOF
                    have HH := Lib.hid (dlHolds _ _ [] 0 true rfl HOF)
                    have HBA := Lib.hid (HB2.out.trans ((HS8.out.dat.below.trans (HB11.out.mono HS8.out.dat.below.size)).mono HB2.out.size))
                    clear hb11 hall hwid hlen HOF HSM hx HS8
                    go_wp2_with fail
                    refine HH.out.mono ?_
                    rintro e w12 ⟨rfl, hb12⟩
                    have HB12 := Lib.hid (HBA.out.via hb12)
                    clear hb12 HH
                    go_wp2_with fail
                    refine (goes _).mono ?_
                    rintro e w13 ⟨rfl, hb13⟩
                    have HB13 := Lib.hid (HB12.out.via hb13)
                    clear hb13
                    go_wp2
                    go_ret
                    exact ⟨rfl, HB13.out⟩
  · have HN0 := Lib.hid (fun p V => cdNew0 p k m hmay hk hm V)
    clear hmay hr hok hclm
    go_enter Try.func5, Try.ntmps5
    go_wp2_with fail
    refine (fldNewA _).mono ?_
    rintro e w1 ⟨rfl, hf, hz, hb0⟩
    have HB1 := Lib.hid (hb0 w.heap.size w (Nat.le_refl _) (Below.refl _ _))
    clear hb0 hz hf
    go_wp2_with fail
    refine (HN0.out _ _).mono ?_
    rintro e w2 ⟨rfl, rfl⟩
    go_wp2_with fail
    refine (goes _).mono ?_
    rintro e w4 ⟨rfl, hb4⟩
    have HB4 := Lib.hid (HB1.out.via hb4)
    clear hb4
    go_wp2
    go_ret
    exact ⟨rfl, HB4.out⟩
end Cib
