/- The law DeltaTells. -/
import Derived.Test.YtmfilmkdaokbbaaDltY
set_option linter.unusedVariables false
set_option linter.unusedSimpArgs false
set_option maxRecDepth 100000
namespace Cib
open Go Go.RowKit Go.Proofs
theorem wrap64_low {x : Int} (h1 : 0 ≤ x) (h2 : x ≤ 1000000) : wrap64 x = x := by unfold wrap64; omega
set_option maxHeartbeats 3200000 in
theorem lawTells (k m : Int) (Ab : Option Addr) (nb cb : Nat) (bs : List UInt8) (i : Int) (mask : Nat) (w : World) (hk : -9223372036854775808 ≤ k ∧ k ≤ 9223372036854775807) (hm : -9223372036854775808 ≤ m ∧ m ≤ 9223372036854775807) (hi : -9223372036854775808 ≤ i ∧ i ≤ 9223372036854775807) (hmask : mask < 256)
    (hrb : Rd w w.heap.size Ab (bs.map bv)) (hnb : bs.length = nb) (hcb : nb ≤ cb) (hcbm : cb ≤ maxLen) :
    Calls Try.prog 6 #[.int .i64 k, .int .i64 m, .slice Ab nb cb, .int .i64 i, .int .u8 (mask : Int)] w fun e w' => e = .returned (.bool true) ∧ Below w.heap.size w w' := by
  have hnbm : nb ≤ 9223372036854775807 := Nat.le_trans hcb hcbm
  by_cases hmay : mayC k m
  · obtain ⟨hm1, hm2, hm3, hm4⟩ := hmay
    obtain ⟨k, rfl⟩ : ∃ n : Nat, k = (n : Int) := ⟨k.toNat, by omega⟩
    obtain ⟨m, rfl⟩ : ∃ n : Nat, m = (n : Int) := ⟨m.toNat, by omega⟩
    have hs : k + m ≤ 255 := by omega
    have hwkm : IntKind.i64.wrap ((k : Int) + (m : Int)) = (k : Int) + (m : Int) := by rw [IntKind.wrap_i64]; omega
    have HN := Lib.hid (fun V h => cdNew w.heap.size k m (by omega) (by omega) hs V h)
    by_cases h24 : 24 < (k : Int) + m
    · clear hrb hnb hcbm hk hm hi
      go_enter Try.func6, Try.ntmps6
      go_wp2_with fail
      refine (fldNewA _).mono ?_
      rintro e w1 ⟨rfl, hf, hz, hb0⟩
      have hb1 := hb0 w.heap.size w (Nat.le_refl _) (Below.refl _ _)
      clear hb0 hz
      go_wp2_with fail
      refine (HN.out w1 hf).mono ?_
      rintro e w2 ⟨g, A1, c1, rfl, hg, hC, hs2⟩
      have HB2 := Lib.hid (hs2.below hb1 (Nat.le_refl _) hb1.size)
      have HC2 := Lib.hid hC
      clear hs2 hb1 hg hC hf
      go_wp2_with fail
      refine (goes _).mono ?_
      rintro e w5 ⟨rfl, hb5⟩
      have HB5 := Lib.hid (HB2.out.via hb5)
      clear hb5
      go_wp2
      go_ret
      exact ⟨rfl, HB5.out⟩
    · by_cases h3 : 1000 < nb
      · clear hrb hnb hcbm hk hm hi
        go_enter Try.func6, Try.ntmps6
        go_wp2_with fail
        refine (fldNewA _).mono ?_
        rintro e w1 ⟨rfl, hf, hz, hb0⟩
        have hb1 := hb0 w.heap.size w (Nat.le_refl _) (Below.refl _ _)
        clear hb0 hz
        go_wp2_with fail
        refine (HN.out w1 hf).mono ?_
        rintro e w2 ⟨g, A1, c1, rfl, hg, hC, hs2⟩
        have HB2 := Lib.hid (hs2.below hb1 (Nat.le_refl _) hb1.size)
        have HC2 := Lib.hid hC
        clear hs2 hb1 hg hC hf
        go_wp2_with fail
        refine (goes _).mono ?_
        rintro e w5 ⟨rfl, hb5⟩
        have HB5 := Lib.hid (HB2.out.via hb5)
        clear hb5
        go_wp2
        go_ret
        exact ⟨rfl, HB5.out⟩
      · by_cases h0 : mask = 0
        · subst h0
          clear hrb hnb hcbm hk hm hi
          go_enter Try.func6, Try.ntmps6
          go_wp2_with fail
          refine (fldNewA _).mono ?_
          rintro e w1 ⟨rfl, hf, hz, hb0⟩
          have hb1 := hb0 w.heap.size w (Nat.le_refl _) (Below.refl _ _)
          clear hb0 hz
          go_wp2_with fail
          refine (HN.out w1 hf).mono ?_
          rintro e w2 ⟨g, A1, c1, rfl, hg, hC, hs2⟩
          have HB2 := Lib.hid (hs2.below hb1 (Nat.le_refl _) hb1.size)
          have HC2 := Lib.hid hC
          clear hs2 hb1 hg hC hf
          go_wp2_with fail
          refine (goes _).mono ?_
          rintro e w5 ⟨rfl, hb5⟩
          have HB5 := Lib.hid (HB2.out.via hb5)
          clear hb5
          go_wp2
          go_ret
          exact ⟨rfl, HB5.out⟩
        · have hm0 : ((mask : Int) == 0) = false := by rw [beq_eq_false_iff_ne]; omega
          obtain ⟨Q, hQ⟩ : ∃ Q, nb / k = Q := ⟨_, rfl⟩
          have hq1 : Q ≤ 1000 := by rw [← hQ]; exact Nat.le_trans (Nat.div_le_self _ _) (by omega)
          have hq2 : nb ≤ k * (Q + 1) := by
            have := Nat.lt_mul_div_succ nb (show 0 < k by omega)
            rw [← hQ]
            omega
          have hdiv : (nb : Int) / (k : Int) = (Q : Int) := by
            rw [← hQ]
            rfl
          have HW : Hid (wrap64 (wrap64 ((nb : Int) / (k : Int)) + 1) = ((Q + 1 : Nat) : Int)) := (show _ = _ by rw [hdiv, wrap64_low (x := (Q : Int)) (by omega) (by omega), wrap64_low (by omega) (by omega)]; rfl)
          clear hdiv hQ
          obtain ⟨W, hW⟩ : ∃ W, Q + 1 = W := ⟨_, rfl⟩
          rw [hW] at hq2 HW
          have hW1 : 1 ≤ W ∧ W ≤ 65536 := by omega
          have hk0 : 0 < k := by omega
          clear hq1
          obtain ⟨at_, hat⟩ : ∃ p : Nat, max 0 (min i ((k : Int) + m - 1)) = (p : Int) := ⟨(max 0 (min i ((k : Int) + m - 1))).toNat, by omega⟩
          have hat1 : at_ < k + m := by omega
          have HAT := Lib.hid hat
          obtain ⟨spot, hspot⟩ : ∃ q : Nat, nb % W = q := ⟨_, rfl⟩
          have hspot1 : spot < W := by rw [← hspot]; exact Nat.mod_lt _ (by omega)
          have HSP : Hid ((nb : Int) % (W : Int) = (spot : Int)) := (show _ = _ by rw [← hspot]; rfl)
          have HRB := Lib.hid hrb
          have HNB := Lib.hid hnb
          have HCB := Lib.hid hcbm
          clear hat hspot hrb hnb hcbm hk hm hW
          go_enter Try.func6, Try.ntmps6
          go_wp2_with fail
          refine (fldNewA _).mono ?_
          rintro e w1 ⟨rfl, hf, hz, hb0⟩
          have hb1 := hb0 w.heap.size w (Nat.le_refl _) (Below.refl _ _)
          clear hb0 hz
          go_wp2_with fail
          refine (HN.out w1 hf).mono ?_
          rintro e w2 ⟨g, A1, c1, rfl, hg, hC, hs2⟩
          have HB2 := Lib.hid (hs2.below hb1 (Nat.le_refl _) hb1.size)
          have HC2 := Lib.hid hC
          clear hs2 hb1 hg hC hf
          go_wp2_with fail
          have HS2 := Lib.hid (cdSplit HC2.out w.heap.size Ab nb cb W bs (HRB.out.below HB2.out) HB2.out.size HNB.out hcb HCB.out hW1 hq2)
          rw [← HW.out] at HS2
          refine HS2.out.mono ?_
          rintro e w3 ⟨A3, n3, c3, L3, rfl, hL3, hn3, ho3, hR3, hb3⟩
          obtain rfl : n3 = k := by
            have := congrArg List.length hL3
            rw [List.length_map, Cod.splitD_length] at this
            omega
          have HB3 := Lib.hid (HB2.out.via hb3)
          have HC3 := Lib.hid (HC2.out.below hb3)
          obtain ⟨D, hD⟩ : ∃ D, Cod.splitD bs W n3 = D := ⟨_, rfl⟩
          have HDE : Hid (Cod.evn D = true) := (show _ = _ by rw [← hD]; exact (split_evn7 bs W n3).1)
          have HDW : Hid (Cod.len0 D = W) := (show _ = _ by rw [← hD]; exact (split_evn7 bs W n3).2 hk0)
          have HDL : Hid (D.length = n3) := (show _ = _ by rw [← hD, Cod.splitD_length])
          rw [hD] at hL3
          have HL3 : Hid (bss L3 = D) := hL3
          have HAL := Lib.hid (cdAllR HC3.out L3 w3.heap.size A3 c3 (Rd.of_own ho3) hR3.at (Nat.le_refl _) hn3 (by rw [HL3.out]; exact HDE.out) (fun r hr => by
            have h1 := HDE.out
            rw [← HL3.out, Cod.evn_true] at h1
            have h2 := h1 r.bs (List.mem_map.2 ⟨r, hr, rfl⟩)
            rw [HL3.out, HDW.out] at h2
            rw [← (hR3.at r hr).len, h2]
            omega))
          rw [HL3.out] at HAL
          clear hL3 hn3 ho3 hR3 hb3 hD HL3 HC2 HB2 HRB HNB HCB HN HS2
          go_wp2_with fail
          refine HAL.out.mono ?_
          rintro e w4 ⟨A4, n4, c4, L, rfl, hL, hn4, ho4, hR4, hb4⟩
          obtain rfl : n4 = n3 + m := by
            have := congrArg List.length hL
            rw [List.length_map, Cod.shards_length] at this
            omega
          have HST : Hid (Sts w3 A4 (n3 + m) c4 L w4) := ⟨ho4, hR4, hb4⟩
          have HLL := Lib.hid hn4
          have HLB : Hid (bss L = Cod.shards n3 D (n3 + m)) := hL
          have hc4 := own_cap ho4
          have HROW : Hid (∀ (L' : List RowB), bss L' = Cod.shards n3 D (n3 + m) ∨ (∃ y, y.length = W ∧ bss L' = (Cod.shards n3 D (n3 + m)).set at_ y) → Cod.evn (bss L') = true ∧ ∀ r ∈ L', r.bs.length = W) := fun L' hL' => by
            have hwid : ∀ r ∈ bss L', r.length = W := by
              rcases hL' with h | ⟨y, hy, h⟩
              · intro r hr
                rw [h] at hr
                simp only [Cod.shards, List.mem_map] at hr
                obtain ⟨j, _, rfl⟩ := hr
                rw [Cod.shard_length, HDW.out]
              · intro r hr
                rw [h] at hr
                rcases List.mem_or_eq_of_mem_set hr with hr | rfl
                · simp only [Cod.shards, List.mem_map] at hr
                  obtain ⟨j, _, rfl⟩ := hr
                  rw [Cod.shard_length, HDW.out]
                · exact hy
            have hlen : 0 < (bss L').length := by
              rcases hL' with h | ⟨y, hy, h⟩
              · rw [h, Cod.shards_length]; omega
              · rw [h, List.length_set, Cod.shards_length]; omega
            refine ⟨?_, fun r hr => hwid _ (List.mem_map.2 ⟨r, hr, rfl⟩)⟩
            rw [Cod.evn_true]
            intro r hr
            rw [Cod.len0_eq hlen, hwid _ hr, hwid _ (List.getElem_mem hlen)]
          clear hL hn4 ho4 hR4 hb4 HAL
          have HOFF : Hid (∀ (V : World) (L' : List RowB), Sts w3 A4 (n3 + m) c4 L' V → L'.length = n3 + m → (bss L' = Cod.shards n3 D (n3 + m) ∨ (∃ y, y.length = W ∧ bss L' = (Cod.shards n3 D (n3 + m)).set at_ y)) → Calls Try.prog 17 #[.pointer (some ⟨g, 0, none⟩), .slice A4 (n3 + m) c4] V (AnyI (Dlt.off n3 (bss L') m) 0 V)) := fun V L' hS hl hb =>
            dlOff (HC3.out.below hS.below) L' V.heap.size A4 (n3 + m) c4 (Rd.of_own hS.own) hS.rows.at (Nat.le_refl _) hl hc4.1 hc4.2 (fun r hr => by rw [← (hS.rows.at r hr).len, (HROW.out L' hb).2 r hr]; omega) rfl (HROW.out L' hb).1
          have HH4 := Lib.hid (dlHolds (w := w4) _ _ [] 0 true rfl (by
            have := HOFF.out w4 L HST.out HLL.out (Or.inl HLB.out)
            rwa [HLB.out, off_none HDL.out HDE.out m (Nat.le_refl _)] at this))
          have hwkm2 : (((n3 + m : Nat)) : Int) = (n3 : Int) + (m : Int) := by omega
          go_wp2_with fail
          refine HH4.out.mono ?_
          rintro e w5 ⟨rfl, hb5⟩
          have HST := Lib.hid (HST.out.via hb5)
          clear hb5 HH4
          have hatL : at_ < L.length := by rw [HLL.out]; exact hat1
          have hrb : L[at_].bs = Cod.shard n3 D at_ := by
            have h1 : (bss L)[at_]? = (Cod.shards n3 D (n3 + m))[at_]? := by rw [HLB.out]
            rw [List.getElem?_eq_getElem (by simpa [bss] using hatL), List.getElem?_eq_getElem (by rw [Cod.shards_length]; exact hat1)] at h1
            simpa [bss, Cod.shards] using h1
          obtain ⟨ad, gr, rc, rb, rfl, hlt1, hlt2, hrow, hcell, hbyte, hfro, hset⟩ := HST.out.spot2 (spot := spot) hatL ((HROW.out L (Or.inl HLB.out)).2 _ (List.getElem_mem _)) hspot1
          have HROWL : Hid (∀ h : at_ < L.length, L[at_] = ⟨some ⟨gr, 0, none⟩, W, rc, rb⟩) := fun _ => hrow
          rw [hrow] at hrb
          simp only at hrb
          have HRBB := Lib.hid hrb
          have hx8 : (rb.getD spot 0).toNat < 256 := UInt8.toNat_lt _
          obtain ⟨z, hz8, hzn⟩ := byte_mk (Fld.xor_lt hx8 hmask)
          have hxx := u8_xor_nat _ _ hx8 hmask
          rw [hzn] at hxx
          have HSET := Lib.hid (fun q => hset z q)
          have HZN := Lib.hid hzn
          obtain ⟨x, hx⟩ : ∃ x, (rb.getD spot 0).toNat = x := ⟨_, rfl⟩
          have HXB := Lib.hid hx
          rw [hx] at hbyte hxx hx8
          clear hset hrb hz8 hzn hatL hrow hx
          go_upto_region 8 with fail
          go_cut [16] (fun x wx => x = .int .i64 (at_ : Int) ∧ wx = w5)
          case first =>
            go_wp2
            all_goals
              go_meet
              exact ⟨int_eq (by have := HAT.out; omega), rfl⟩
          case rest =>
            obtain ⟨rfl, hwx⟩ := hcut
            replace hwx := hwx.symm
            subst hwx
            clear HAT hi
            go_upto_region 9 with fail
            go_cut [17] (fun x wx => x = .int .i64 (spot : Int) ∧ wx = w5)
            case first =>
              go_wp2
              all_goals
                go_meet
                exact ⟨int_eq (by first | exact HSP.out | (have := HSP.out; omega)), rfl⟩
            case rest =>
              obtain ⟨rfl, hwx⟩ := hcut
              replace hwx := hwx.symm
              subst hwx
              have hd1 : w5.drew.cell? (ad.add at_) = some (.slice (some ⟨gr, 0, none⟩) W rc) := hcell
              have hd2 : w5.drew.cell? ⟨gr, spot, none⟩ = some (.int .u8 (x : Int)) := hbyte
              have hd3 : w5.drew.frozen? ⟨gr, spot, none⟩ = false := hfro
              have hatI : (at_ : Int) < (n3 : Int) + (m : Int) := by omega
              have hspI : (spot : Int) < (W : Int) := by omega
              have HE1 := Lib.hid hlt1
              have HE2 := Lib.hid hlt2
              clear hcell hbyte hfro hlt1 hlt2
              have hd4 : (w5.setCell ⟨gr, spot, none⟩ (.int .u8 (z.toNat : Int))).drew.cell? (ad.add at_) = some (.slice (some ⟨gr, 0, none⟩) W rc) := (HSET.out 1).cell (at_ := at_) (by rw [List.length_set, HLL.out]; exact hat1) (List.getElem_set_self _)
              go_upto_region 10 with fail
              go_cut [17] (fun x wx => x = .int .i64 (spot : Int) ∧ wx = (w5.setCell ⟨gr, spot, none⟩ (.int .u8 (z.toNat : Int))).drew)
              case first =>
                go_wp2
                refine wp_region_held_drew (S := (fun wQq => wQq.cell? (ad.add at_) = some (.slice (some ⟨gr, 0, none⟩) W rc))) (by kernel_rfl) (hd1) (fun _ => ?_)
                refine wpAnyH_take (i := 0) (v := ?_) rfl (by kernel_rfl) (by kernel_rfl) (by kernel_rfl) (fun _ _ _ h => h) (Or.inl ⟨by rfl, ?_⟩) (hd1) ?_
                rotate_left
                · intro wS hSw
                  go_simp
                  try with_reducible rfl
                try simp only [List.getElem_toArray, List.getElem_cons_zero, List.getElem_cons_succ, Act.put, List.setIfInBounds_toArray, List.set_cons_zero, List.set_cons_succ]
                refine wpAnyH_take (i := 1) (v := ?_) rfl (by kernel_rfl) (by kernel_rfl) (by kernel_rfl) (fun _ _ _ h => h) (Or.inl ⟨by rfl, ?_⟩) (hd1) ?_
                rotate_left
                · intro wS hSw
                  go_simp
                  try with_reducible rfl
                try simp only [List.getElem_toArray, List.getElem_cons_zero, List.getElem_cons_succ, Act.put, List.setIfInBounds_toArray, List.set_cons_zero, List.set_cons_succ]
                refine wpAnyH_take (i := 2) (v := ?_) rfl (by kernel_rfl) (by kernel_rfl) (by kernel_rfl) (fun _ _ _ h => h) (Or.inl ⟨by rfl, ?_⟩) (hd1) ?_
                rotate_left
                · intro wS hSw
                  go_simp
                  try with_reducible rfl
                try simp only [List.getElem_toArray, List.getElem_cons_zero, List.getElem_cons_succ, Act.put, List.setIfInBounds_toArray, List.set_cons_zero, List.set_cons_succ]
                refine wpAnyH_take (i := 4) (v := ?_) rfl (by kernel_rfl) (by kernel_rfl) (by kernel_rfl) (fun _ _ _ h => h) (Or.inl ⟨by rfl, ?_⟩) (hd1) ?_
                rotate_left
                · intro wS hSw
                  go_simp
                  try with_reducible rfl
                try simp only [List.getElem_toArray, List.getElem_cons_zero, List.getElem_cons_succ, Act.put, List.setIfInBounds_toArray, List.set_cons_zero, List.set_cons_succ]
                refine wpAnyH_take (i := 5) (v := ?_) rfl (by kernel_rfl) (by kernel_rfl) (by kernel_rfl) (fun _ _ _ h => h) (Or.inl ⟨by rfl, ?_⟩) (hd1) ?_
                rotate_left
                · intro wS hSw
                  go_simp
                  try with_reducible rfl
                try simp only [List.getElem_toArray, List.getElem_cons_zero, List.getElem_cons_succ, Act.put, List.setIfInBounds_toArray, List.set_cons_zero, List.set_cons_succ]
                refine wpAnyH_take (i := 6) (v := ?_) rfl (by kernel_rfl) (by kernel_rfl) (by kernel_rfl) (fun _ _ _ h => h) (Or.inl ⟨by rfl, ?_⟩) (hd1) ?_
                rotate_left
                · intro wS hSw
                  go_simp
                  try with_reducible rfl
                try simp only [List.getElem_toArray, List.getElem_cons_zero, List.getElem_cons_succ, Act.put, List.setIfInBounds_toArray, List.set_cons_zero, List.set_cons_succ]
                refine wpAnyH_take (i := 7) (v := ?_) rfl (by kernel_rfl) (by kernel_rfl) (by kernel_rfl) (fun _ _ _ h => h) (Or.inl ⟨by rfl, ?_⟩) (hd1) ?_
                rotate_left
                · intro wS hSw
                  go_simp
                  try with_reducible rfl
                try simp only [List.getElem_toArray, List.getElem_cons_zero, List.getElem_cons_succ, Act.put, List.setIfInBounds_toArray, List.set_cons_zero, List.set_cons_succ]
                refine wpAnyH_take (i := 9) (v := ?_) rfl (by kernel_rfl) (by kernel_rfl) (by kernel_rfl) (fun _ _ _ h => h) (Or.inl ⟨by rfl, ?_⟩) (hd1) ?_
                rotate_left
                · intro wS hSw
                  go_simp
                  try with_reducible rfl
                try simp only [List.getElem_toArray, List.getElem_cons_zero, List.getElem_cons_succ, Act.put, List.setIfInBounds_toArray, List.set_cons_zero, List.set_cons_succ]
                refine wpAnyH_take (i := 12) (v := ?_) rfl (by kernel_rfl) (by kernel_rfl) (by kernel_rfl) (fun _ _ _ h => h) (Or.inl ⟨by rfl, ?_⟩) (hd1) ?_
                rotate_left
                · intro wS hSw
                  go_simp
                  try with_reducible rfl
                try simp only [List.getElem_toArray, List.getElem_cons_zero, List.getElem_cons_succ, Act.put, List.setIfInBounds_toArray, List.set_cons_zero, List.set_cons_succ]
                refine wpAnyH_take (i := 3) (v := ?_) rfl (by kernel_rfl) (by kernel_rfl) (by kernel_rfl) (fun _ _ _ h => h) (Or.inl ⟨by rfl, ?_⟩) (hd1) ?_
                rotate_left
                · intro wS hSw
                  have hcv := hSw
                  go_simp
                  try with_reducible rfl
                try simp only [List.getElem_toArray, List.getElem_cons_zero, List.getElem_cons_succ, Act.put, List.setIfInBounds_toArray, List.set_cons_zero, List.set_cons_succ]
                refine wpAnyH_take (i := 8) (v := ?_) rfl (by kernel_rfl) (by kernel_rfl) (by kernel_rfl) (fun _ _ _ h => h) (Or.inl ⟨by rfl, ?_⟩) (hd1) ?_
                rotate_left
                · intro wS hSw
                  have hcv := hSw
                  go_simp
                  try with_reducible rfl
                try simp only [List.getElem_toArray, List.getElem_cons_zero, List.getElem_cons_succ, Act.put, List.setIfInBounds_toArray, List.set_cons_zero, List.set_cons_succ]
                refine wpAnyH_take (i := 10) (v := ?_) rfl (by kernel_rfl) (by kernel_rfl) (by kernel_rfl) (fun _ _ _ h => h) (Or.inl ⟨by rfl, ?_⟩) (hd1) ?_
                rotate_left
                · intro wS hSw
                  go_simp
                  try with_reducible rfl
                try simp only [List.getElem_toArray, List.getElem_cons_zero, List.getElem_cons_succ, Act.put, List.setIfInBounds_toArray, List.set_cons_zero, List.set_cons_succ]
                refine wpAnyH_ready (rs := [11]) (by kernel_rfl) (by simp) ?_
                refine AllReadyH.cons rfl (fun K hK => ?_) AllReadyH.nil
                go_simp
                refine hK.out _ _ hd1 (fun _ => ?_)
                clear hK K
                try simp only [List.getElem_toArray, List.getElem_cons_zero, List.getElem_cons_succ, Act.put, List.setIfInBounds_toArray, List.set_cons_zero, List.set_cons_succ]
                refine wpAnyH_take (i := 13) (v := ?_) rfl (by kernel_rfl) (by kernel_rfl) (by kernel_rfl) (fun _ _ _ h => h) (Or.inl ⟨by rfl, ?_⟩) hd1 ?_
                rotate_left
                · intro wS hSw
                  go_simp
                  try with_reducible rfl
                try simp only [List.getElem_toArray, List.getElem_cons_zero, List.getElem_cons_succ, Act.put, List.setIfInBounds_toArray, List.set_cons_zero, List.set_cons_succ]
                refine wpAnyH_take (i := 14) (v := ?_) rfl (by kernel_rfl) (by kernel_rfl) (by kernel_rfl) (fun _ _ _ h => h) (Or.inl ⟨by rfl, ?_⟩) hd1 ?_
                rotate_left
                · intro wS hSw
                  go_simp
                  try with_reducible rfl
                try simp only [List.getElem_toArray, List.getElem_cons_zero, List.getElem_cons_succ, Act.put, List.setIfInBounds_toArray, List.set_cons_zero, List.set_cons_succ]
                refine wpAnyH_ready (rs := [15]) (by kernel_rfl) (by simp) ?_
                refine AllReadyH.cons rfl (fun K hK => ?_) AllReadyH.nil
                go_simp
                refine hK.out _ _ hd4 (fun _ => ?_)
                clear hK K
                try simp only [List.getElem_toArray, List.getElem_cons_zero, List.getElem_cons_succ, Act.put, List.setIfInBounds_toArray, List.set_cons_zero, List.set_cons_succ]
                refine wpAnyH_done (by kernel_rfl) ?_ _
                first | go_meet | (go_wp2_with fail; go_meet)
                exact ⟨rfl, rfl⟩
              case rest =>
                obtain ⟨rfl, rfl⟩ := hcut
                have HST6 : Hid (Sts w3 (some ad) (n3 + m) c4 (L.set at_ ⟨some ⟨gr, 0, none⟩, W, rc, rb.set spot z⟩) (w5.setCell ⟨gr, spot, none⟩ (.int .u8 (z.toNat : Int))).drew) := HSET.out 1
                clear hd1 hd2 hd3 hd4
                generalize (w5.setCell ⟨gr, spot, none⟩ (.int .u8 (z.toNat : Int))).drew = w6 at *
                have HRL : Hid (rb.length = W) := (show _ = _ by rw [HRBB.out, Cod.shard_length, HDW.out])
                obtain ⟨l, hl⟩ : ∃ l, (if at_ < n3 then (List.range m).map (fun j => n3 + j) else [at_]) = l := ⟨_, rfl⟩
                have HL1L : Hid ((L.set at_ ⟨some ⟨gr, 0, none⟩, W, rc, rb.set spot z⟩).length = n3 + m) := (show _ = _ by rw [List.length_set, HLL.out])
                have HL1B : Hid (bss (L.set at_ ⟨some ⟨gr, 0, none⟩, W, rc, rb.set spot z⟩) = (Cod.shards n3 D (n3 + m)).set at_ (rb.set spot z)) := (show _ = _ by rw [set_bss, HLB.out])
                have HOF1 : Hid (∀ V, Sts w3 (some ad) (n3 + m) c4 (L.set at_ ⟨some ⟨gr, 0, none⟩, W, rc, rb.set spot z⟩) V → Calls Try.prog 17 #[.pointer (some ⟨g, 0, none⟩), .slice (some ad) (n3 + m) c4] V (AnyI l 0 V)) := fun V hV => by
                  have h := HOFF.out V _ hV HL1L.out (Or.inr ⟨rb.set spot z, by rw [List.length_set]; exact HRL.out, HL1B.out⟩)
                  rw [HL1B.out, off_one (mask := mask) (q := spot) (x := 0) (z := 0) HDL.out HDE.out hs hk0 hat1 (by rw [HDW.out]; exact hspot1) h0 hmask _ (by rw [List.length_set, HRL.out, HDW.out]) (by
                    rw [← HRBB.out, HZN.out]
                    congr 1
                    rw [List.getD_eq_getElem?_getD, List.getElem?_set_self (by rw [HRL.out]; exact hspot1)]
                    rfl), hl] at h
                  exact h
                have hlne : false = (decide ((0 : Int) = 0) && decide (l = [])) := by
                  have : l ≠ [] := by
                    rw [← hl]
                    split
                    · intro h
                      have := congrArg List.length h
                      simp at this
                      omega
                    · simp
                  simp [this]
                have HLNE := Lib.hid hlne
                have HLD := Lib.hid hl
                clear hlne hl HSET
                go_wp2_with fail
                refine (HOF1.out w6 HST6.out).mono ?_
                rintro e w7 ⟨A7, n7, c7, rfl, hn7, hn71, hr7, hb7⟩
                have HST7 := Lib.hid (HST6.out.via hb7)
                have HH7 := Lib.hid (dlHolds _ _ l 0 false HLNE.out (HOF1.out w7 HST7.out))
                have HN7 := Lib.hid hn7
                have HR7 := Lib.hid hr7
                clear hn7 hr7 hb7 HST6
                go_upto_region 12 with fail
                go_cut [142] (fun x wx => x = .bool false ∧ Hid (Below w7.heap.size w7 wx))
                case first =>
                  go_wp2_with fail
                  refine HH7.out.mono ?_
                  rintro e w8 ⟨rfl, hb8⟩
                  have HB8 := Lib.hid hb8
                  clear hb8
                  by_cases hlt : at_ < n3
                  · have hn7 : n7 = m := by rw [← HN7.out, ← HLD.out, if_pos hlt]; simp
                    subst hn7
                    have hq1 : ((at_ : Int) ≥ (n3 : Int)) = False := by simp; omega
                    have hq2 : ((n7 : Int) != (n7 : Int)) = false := by simp
                    by_cases hm1' : n7 = 1
                    · subst hm1'
                      go_wp2
                      go_meet
                      exact ⟨rfl, HB8⟩
                    · have hq3 : ((n7 : Int) != 1) = true := by rw [bne_iff_ne]; omega
                      go_wp2
                      go_meet
                      exact ⟨rfl, HB8⟩
                  · have hn7 : n7 = 1 := by rw [← HN7.out, ← HLD.out, if_neg hlt]; rfl
                    subst hn7
                    by_cases hm1' : m = 1
                    · subst hm1'
                      go_wp2
                      go_meet
                      exact ⟨rfl, HB8⟩
                    · have hq3 : ((1 : Int) != (m : Int)) = true := by rw [bne_iff_ne]; omega
                      go_wp2
                      go_meet
                      exact ⟨rfl, HB8⟩
                case rest =>
                  obtain ⟨rfl, HB8⟩ := hcut
                  obtain ⟨w8, hw8⟩ : ∃ v, v = wc := ⟨_, rfl⟩
                  subst hw8
                  clear HH7
                  go_upto_region 14 with fail
                  go_cut [176] (fun x wx => x = .bool false ∧ wx = w8)
                  case first =>
                    by_cases hlt : at_ < n3
                    · have hn7 : n7 = m := by rw [← HN7.out, ← HLD.out, if_pos hlt]; simp
                      subst hn7
                      have hl := HLD.out
                      rw [if_pos hlt] at hl
                      obtain ⟨ad7, rfl, hc0⟩ := rd_int (HR7.out.below HB8.out) (k := 0) (by rw [HN7.out]; omega)
                      obtain ⟨ad7', hA, hc1⟩ := rd_int (HR7.out.below HB8.out) (k := n7 - 1) (by rw [HN7.out]; omega)
                      cases hA
                      have hv0 : (l[0]'(by rw [HN7.out]; omega)) = n3 := by simp [← hl]
                      have hv1 : ((l[n7 - 1]'(by rw [HN7.out]; omega) : Nat) : Int) = (n3 : Int) + (n7 : Int) - 1 := by simp only [← hl, List.getElem_map, List.getElem_range]; omega
                      rw [hv0, addr_add_zero] at hc0
                      rw [hv1] at hc1
                      have hq1 : ((at_ : Int) ≥ (n3 : Int)) = False := by simp; omega
                      have hq0 : ((n7 : Int) - 1).toNat = n7 - 1 := by omega
                      clear hl hv0 hv1
                      go_wp2
                      go_meet
                      exact ⟨rfl, rfl⟩
                    · have hn7 : n7 = 1 := by rw [← HN7.out, ← HLD.out, if_neg hlt]; rfl
                      subst hn7
                      have hl := HLD.out
                      rw [if_neg hlt] at hl
                      obtain ⟨ad7, rfl, hc0⟩ := rd_int (HR7.out.below HB8.out) (k := 0) (by rw [HN7.out]; omega)
                      have hv0 : (l[0]'(by rw [HN7.out]; omega)) = at_ := by simp [← hl]
                      rw [hv0, addr_add_zero] at hc0
                      clear hl hv0
                      go_wp2
                      go_meet
                      exact ⟨rfl, rfl⟩
                  case rest =>
                    obtain ⟨rfl, hwx⟩ := hcut
                    replace hwx := hwx.symm
                    subst hwx
                    have HST8 := Lib.hid (HST7.out.via HB8.out)
                    clear HST7 HB8 HN7 HR7
                    have hatL : at_ < (L.set at_ ⟨some ⟨gr, 0, none⟩, W, rc, rb.set spot z⟩).length := by rw [HL1L.out]; exact hat1
                    obtain ⟨ad', gr2, rc2, rb2, hA, hlt1, hlt2, hrow, hcell, hbyte, hfro, hset⟩ := HST8.out.spot2 (spot := spot) (W := W) hatL (by rw [List.getElem_set_self, List.length_set]; exact HRL.out) hspot1
                    cases hA
                    rw [List.getElem_set_self] at hrow
                    cases hrow
                    have hxb : ((rb.set spot z).getD spot 0).toNat = z.toNat := by rw [List.getD_eq_getElem?_getD, List.getElem?_set_self (by rw [HRL.out]; exact hspot1)]; rfl
                    rw [hxb] at hbyte
                    have hz8 : z.toNat < 256 := UInt8.toNat_lt _
                    obtain ⟨y0, hy0⟩ : ∃ y, rb.getD spot 0 = y := ⟨_, rfl⟩
                    have hx0 : z.toNat ^^^ mask = y0.toNat := by rw [← hy0, ← HZN.out, Nat.xor_assoc, Nat.xor_self, Nat.xor_zero]
                    have hxx2 := u8_xor_nat _ _ hz8 hmask
                    rw [hx0] at hxx2
                    have hback : (L.set at_ ⟨some ⟨gr, 0, none⟩, W, rc, rb.set spot z⟩).set at_ ⟨some ⟨gr, 0, none⟩, W, rc, (rb.set spot z).set spot y0⟩ = L := by
                      have hr := HROWL.out (by rw [HLL.out]; exact hat1)
                      have he : rb.set spot y0 = rb := by
                        rw [← hy0, List.getD_eq_getElem?_getD, List.getElem?_eq_getElem (by rw [HRL.out]; exact hspot1), Option.getD_some, List.set_getElem_self]
                      rw [List.set_set, List.set_set, he, ← hr, List.set_getElem_self]
                    have hset1 := hset y0 1
                    rw [hback] at hset1
                    have HST9 : Hid (Sts w3 (some ad) (n3 + m) c4 L (w8.setCell ⟨gr, spot, none⟩ (.int .u8 (y0.toNat : Int))).drew) := hset1
                    clear hset hset1 hback hx0 hxb hy0
                    have hd1 : w8.drew.cell? (ad.add at_) = some (.slice (some ⟨gr, 0, none⟩) W rc) := hcell
                    have hd2 : w8.drew.cell? ⟨gr, spot, none⟩ = some (.int .u8 (z.toNat : Int)) := hbyte
                    have hd3 : w8.drew.frozen? ⟨gr, spot, none⟩ = false := hfro
                    have hd4 : (w8.setCell ⟨gr, spot, none⟩ (.int .u8 (y0.toNat : Int))).drew.cell? (ad.add at_) = some (.slice (some ⟨gr, 0, none⟩) W rc) := HST9.out.cell (at_ := at_) (by rw [HLL.out]; exact hat1) (HROWL.out _)
                    clear hcell hbyte hfro hlt1 hlt2
                    go_wp2
                    refine wp_region_held_drew (S := (fun wQq => wQq.cell? (ad.add at_) = some (.slice (some ⟨gr, 0, none⟩) W rc))) (by kernel_rfl) (hd1) (fun _ => ?_)
                    refine wpAnyH_take (i := 0) (v := ?_) rfl (by kernel_rfl) (by kernel_rfl) (by kernel_rfl) (fun _ _ _ h => h) (Or.inl ⟨by rfl, ?_⟩) (hd1) ?_
                    rotate_left
                    · intro wS hSw
                      go_simp
                      try with_reducible rfl
                    try simp only [List.getElem_toArray, List.getElem_cons_zero, List.getElem_cons_succ, Act.put, List.setIfInBounds_toArray, List.set_cons_zero, List.set_cons_succ]
                    refine wpAnyH_take (i := 1) (v := ?_) rfl (by kernel_rfl) (by kernel_rfl) (by kernel_rfl) (fun _ _ _ h => h) (Or.inl ⟨by rfl, ?_⟩) (hd1) ?_
                    rotate_left
                    · intro wS hSw
                      go_simp
                      try with_reducible rfl
                    try simp only [List.getElem_toArray, List.getElem_cons_zero, List.getElem_cons_succ, Act.put, List.setIfInBounds_toArray, List.set_cons_zero, List.set_cons_succ]
                    refine wpAnyH_take (i := 2) (v := ?_) rfl (by kernel_rfl) (by kernel_rfl) (by kernel_rfl) (fun _ _ _ h => h) (Or.inl ⟨by rfl, ?_⟩) (hd1) ?_
                    rotate_left
                    · intro wS hSw
                      go_simp
                      try with_reducible rfl
                    try simp only [List.getElem_toArray, List.getElem_cons_zero, List.getElem_cons_succ, Act.put, List.setIfInBounds_toArray, List.set_cons_zero, List.set_cons_succ]
                    refine wpAnyH_take (i := 4) (v := ?_) rfl (by kernel_rfl) (by kernel_rfl) (by kernel_rfl) (fun _ _ _ h => h) (Or.inl ⟨by rfl, ?_⟩) (hd1) ?_
                    rotate_left
                    · intro wS hSw
                      go_simp
                      try with_reducible rfl
                    try simp only [List.getElem_toArray, List.getElem_cons_zero, List.getElem_cons_succ, Act.put, List.setIfInBounds_toArray, List.set_cons_zero, List.set_cons_succ]
                    refine wpAnyH_take (i := 5) (v := ?_) rfl (by kernel_rfl) (by kernel_rfl) (by kernel_rfl) (fun _ _ _ h => h) (Or.inl ⟨by rfl, ?_⟩) (hd1) ?_
                    rotate_left
                    · intro wS hSw
                      go_simp
                      try with_reducible rfl
                    try simp only [List.getElem_toArray, List.getElem_cons_zero, List.getElem_cons_succ, Act.put, List.setIfInBounds_toArray, List.set_cons_zero, List.set_cons_succ]
                    refine wpAnyH_take (i := 6) (v := ?_) rfl (by kernel_rfl) (by kernel_rfl) (by kernel_rfl) (fun _ _ _ h => h) (Or.inl ⟨by rfl, ?_⟩) (hd1) ?_
                    rotate_left
                    · intro wS hSw
                      go_simp
                      try with_reducible rfl
                    try simp only [List.getElem_toArray, List.getElem_cons_zero, List.getElem_cons_succ, Act.put, List.setIfInBounds_toArray, List.set_cons_zero, List.set_cons_succ]
                    refine wpAnyH_take (i := 7) (v := ?_) rfl (by kernel_rfl) (by kernel_rfl) (by kernel_rfl) (fun _ _ _ h => h) (Or.inl ⟨by rfl, ?_⟩) (hd1) ?_
                    rotate_left
                    · intro wS hSw
                      go_simp
                      try with_reducible rfl
                    try simp only [List.getElem_toArray, List.getElem_cons_zero, List.getElem_cons_succ, Act.put, List.setIfInBounds_toArray, List.set_cons_zero, List.set_cons_succ]
                    refine wpAnyH_take (i := 9) (v := ?_) rfl (by kernel_rfl) (by kernel_rfl) (by kernel_rfl) (fun _ _ _ h => h) (Or.inl ⟨by rfl, ?_⟩) (hd1) ?_
                    rotate_left
                    · intro wS hSw
                      go_simp
                      try with_reducible rfl
                    try simp only [List.getElem_toArray, List.getElem_cons_zero, List.getElem_cons_succ, Act.put, List.setIfInBounds_toArray, List.set_cons_zero, List.set_cons_succ]
                    refine wpAnyH_take (i := 12) (v := ?_) rfl (by kernel_rfl) (by kernel_rfl) (by kernel_rfl) (fun _ _ _ h => h) (Or.inl ⟨by rfl, ?_⟩) (hd1) ?_
                    rotate_left
                    · intro wS hSw
                      go_simp
                      try with_reducible rfl
                    try simp only [List.getElem_toArray, List.getElem_cons_zero, List.getElem_cons_succ, Act.put, List.setIfInBounds_toArray, List.set_cons_zero, List.set_cons_succ]
                    refine wpAnyH_take (i := 3) (v := ?_) rfl (by kernel_rfl) (by kernel_rfl) (by kernel_rfl) (fun _ _ _ h => h) (Or.inl ⟨by rfl, ?_⟩) (hd1) ?_
                    rotate_left
                    · intro wS hSw
                      have hcv := hSw
                      go_simp
                      try with_reducible rfl
                    try simp only [List.getElem_toArray, List.getElem_cons_zero, List.getElem_cons_succ, Act.put, List.setIfInBounds_toArray, List.set_cons_zero, List.set_cons_succ]
                    refine wpAnyH_take (i := 8) (v := ?_) rfl (by kernel_rfl) (by kernel_rfl) (by kernel_rfl) (fun _ _ _ h => h) (Or.inl ⟨by rfl, ?_⟩) (hd1) ?_
                    rotate_left
                    · intro wS hSw
                      have hcv := hSw
                      go_simp
                      try with_reducible rfl
                    try simp only [List.getElem_toArray, List.getElem_cons_zero, List.getElem_cons_succ, Act.put, List.setIfInBounds_toArray, List.set_cons_zero, List.set_cons_succ]
                    refine wpAnyH_take (i := 10) (v := ?_) rfl (by kernel_rfl) (by kernel_rfl) (by kernel_rfl) (fun _ _ _ h => h) (Or.inl ⟨by rfl, ?_⟩) (hd1) ?_
                    rotate_left
                    · intro wS hSw
                      go_simp
                      try with_reducible rfl
                    try simp only [List.getElem_toArray, List.getElem_cons_zero, List.getElem_cons_succ, Act.put, List.setIfInBounds_toArray, List.set_cons_zero, List.set_cons_succ]
                    refine wpAnyH_ready (rs := [11]) (by kernel_rfl) (by simp) ?_
                    refine AllReadyH.cons rfl (fun K hK => ?_) AllReadyH.nil
                    go_simp
                    refine hK.out _ _ hd1 (fun _ => ?_)
                    clear hK K
                    try simp only [List.getElem_toArray, List.getElem_cons_zero, List.getElem_cons_succ, Act.put, List.setIfInBounds_toArray, List.set_cons_zero, List.set_cons_succ]
                    refine wpAnyH_take (i := 13) (v := ?_) rfl (by kernel_rfl) (by kernel_rfl) (by kernel_rfl) (fun _ _ _ h => h) (Or.inl ⟨by rfl, ?_⟩) hd1 ?_
                    rotate_left
                    · intro wS hSw
                      go_simp
                      try with_reducible rfl
                    try simp only [List.getElem_toArray, List.getElem_cons_zero, List.getElem_cons_succ, Act.put, List.setIfInBounds_toArray, List.set_cons_zero, List.set_cons_succ]
                    refine wpAnyH_take (i := 14) (v := ?_) rfl (by kernel_rfl) (by kernel_rfl) (by kernel_rfl) (fun _ _ _ h => h) (Or.inl ⟨by rfl, ?_⟩) hd1 ?_
                    rotate_left
                    · intro wS hSw
                      go_simp
                      try with_reducible rfl
                    try simp only [List.getElem_toArray, List.getElem_cons_zero, List.getElem_cons_succ, Act.put, List.setIfInBounds_toArray, List.set_cons_zero, List.set_cons_succ]
                    refine wpAnyH_ready (rs := [15]) (by kernel_rfl) (by simp) ?_
                    refine AllReadyH.cons rfl (fun K hK => ?_) AllReadyH.nil
                    go_simp
                    refine hK.out _ _ hd4 (fun _ => ?_)
                    clear hK K
                    try simp only [List.getElem_toArray, List.getElem_cons_zero, List.getElem_cons_succ, Act.put, List.setIfInBounds_toArray, List.set_cons_zero, List.set_cons_succ]
                    refine wpAnyH_done (by kernel_rfl) ?_ _
                    clear hd1 hd2 hd3 hd4
                    generalize (w8.setCell ⟨gr, spot, none⟩ (.int .u8 (y0.toNat : Int))).drew = w9 at *
                    have HH9 := Lib.hid (dlHolds (w := w9) _ _ [] 0 true rfl (by
                      have := HOFF.out w9 L HST9.out HLL.out (Or.inl HLB.out)
                      rwa [HLB.out, off_none HDL.out HDE.out m (Nat.le_refl _)] at this))
                    go_wp2_with fail
                    refine HH9.out.mono ?_
                    rintro e w10 ⟨rfl, hb10⟩
                    have HB10 := Lib.hid (HB3.out.trans ((HST9.out.below.via hb10).mono HB3.out.size))
                    clear hb10 HH9
                    go_wp2_with fail
                    refine (goes _).mono ?_
                    rintro e w11 ⟨rfl, hb11⟩
                    have HB11 := Lib.hid (HB10.out.via hb11)
                    clear hb11
                    go_wp2
                    go_ret
                    exact ⟨rfl, HB11.out⟩
  · have HN0 := Lib.hid (fun p V => cdNew0 p k m hmay hk hm V)
    clear hmay hrb hnb
    go_enter Try.func6, Try.ntmps6
    go_wp2_with fail
    refine (fldNewA _).mono ?_
    rintro e w1 ⟨rfl, hf, hz, hb0⟩
    have HB1 := Lib.hid (hb0 w.heap.size w (Nat.le_refl _) (Below.refl _ _))
    clear hb0 hz hf
    go_wp2_with fail
    refine (HN0.out _ _).mono ?_
    rintro e w2 ⟨rfl, rfl⟩
    go_wp2_with fail
    refine (goes _).mono ?_
    rintro e w4 ⟨rfl, hb4⟩
    have HB4 := Lib.hid (HB1.out.via hb4)
    clear hb4
    go_wp2
    go_ret
    exact ⟨rfl, HB4.out⟩
end Cib
