/- The law LocateFinds. -/
import Derived.Test.YthlpcghoijgeiaaGreatLocD
import Derived.Test.YthlpcghoijgeiaaGreatLocG
import Derived.Test.YthlpcghoijgeiaaGreatLoJ
set_option linter.unusedVariables false
set_option linter.unusedSimpArgs false
set_option maxRecDepth 40000
namespace Cib
open Go Go.RowKit Go.ChangeShapes Go.WideShapes Go.Deep Go.Proofs
/-- A spot. -/
structure Spt where
  row : Int
  at_ : Int
  mask : Nat
def sptRow (x : Spt) : List Value := [.int .i64 x.row, .int .i64 x.at_, .int .u8 (x.mask : Int)]
def Spt.ok (x : Spt) : Prop := (-9223372036854775808 ≤ x.row ∧ x.row ≤ 9223372036854775807) ∧ (-9223372036854775808 ≤ x.at_ ∧ x.at_ ≤ 9223372036854775807) ∧ x.mask < 256
theorem openSpots {H : Type} {enc : TypeId × Value → H} {w : World} {held : Bool} {fuel : Nat} {A : Option Addr} {n c : Nat} {x : DataW H × List MemPlace} (h : DataW.trod enc Tryz.prog w 0 (fun _ => true) held fuel 23 [.slice A n c] = some x) :
    ∃ l : List Spt, l.length = n ∧ n ≤ c ∧ c ≤ maxLen ∧ Rd w w.heap.size A (l.map sptRow).flatten ∧ ∀ y ∈ l, y.ok := by
  obtain ⟨rows, hrl, hl, hm, hr, hrows⟩ := open_rows Tryz.underlying23 Tryz.underlying35 (by kernel_rfl) (by kernel_rfl) (by decide) h
  have hall : ∀ r ∈ rows, ∃ y : { y : Spt // y.ok }, r = sptRow y.1 := by
    intro r hr
    obtain ⟨hlen, m, hf⟩ := hrows r hr
    obtain ⟨v0, y0, e0, t0⟩ := hf 0 _ rfl
    obtain ⟨v1, y1, e1, t1⟩ := hf 1 _ rfl
    obtain ⟨v2, y2, e2, t2⟩ := hf 2 _ rfl
    obtain ⟨a, ha, _, wa⟩ := DataW.trod_int Tryz.underlying3 t0
    obtain ⟨b, hb, _, wb⟩ := DataW.trod_int Tryz.underlying3 t1
    obtain ⟨d, hd, _, wd⟩ := DataW.trod_int Tryz.underlying5 t2
    simp only [List.cons.injEq, and_true] at ha hb hd
    subst ha
    subst hb
    subst hd
    obtain ⟨k, rfl, hk⟩ := wf_u8 wd
    have h3 : r.length = 3 := hlen
    refine ⟨⟨⟨a, b, k⟩, wf_i64 wa, wf_i64 wb, hk⟩, ?_⟩
    match r, h3 with
    | [r0, r1, r2], _ =>
      simp at e0 e1 e2
      rw [e0, e1, e2]
      rfl
  obtain ⟨l, rfl⟩ := list_map (fun y : { y : Spt // y.ok } => sptRow y.1) rows hall
  refine ⟨l.map (·.1), by simpa using hrl, hl, hm, by rw [List.map_map]; exact hr, ?_⟩
  intro y hy
  obtain ⟨z, _, rfl⟩ := List.mem_map.1 hy
  exact z.2
theorem spt_at {w : World} {B : Nat} {A : Option Addr} {l : List Spt} (h : Rd w B A (l.map sptRow).flatten) {i : Nat} (hi : i < l.length) :
    ∃ b off, A = some ⟨b, off, none⟩ ∧ b < B ∧ w.cell? ⟨b, off + i * 3, none⟩ = some (.int .i64 l[i].row) ∧ w.cell? ⟨b, off + i * 3 + 1, none⟩ = some (.int .i64 l[i].at_) ∧ w.cell? ⟨b, off + i * 3 + 2, none⟩ = some (.int .u8 (l[i].mask : Int)) := by
  obtain ⟨b, off, e, hb, hc⟩ := Rd.fieldAt (s := 3) h (by intro r hr; obtain ⟨x, _, rfl⟩ := List.mem_map.1 hr; rfl) (i := i) (by simpa using hi) (by decide)
  refine ⟨b, off, e, hb, hc 0 _ ?_, hc 1 _ ?_, hc 2 _ ?_⟩ <;> simp [sptRow]
theorem clampN8 (a : Int) {n : Nat} (h : 0 < n) : ∃ K : Nat, Hid (max 0 (min a ((n : Int) - 1)) = (K : Int)) ∧ K < n := by
  refine ⟨(max 0 (min a ((n : Int) - 1))).toNat, ?_, by omega⟩
  unfold Hid
  omega
theorem split_evn {bs : List UInt8} {W p : Nat} : ∀ r ∈ Cod.splitD bs W p, r.length = W := by
  intro r hr
  simp only [Cod.splitD, List.mem_map] at hr
  obtain ⟨i, _, rfl⟩ := hr
  exact Cod.cutRow_length _ _ _
theorem evn_of {D : List (List UInt8)} {W : Nat} (h : ∀ r ∈ D, r.length = W) : Cod.evn D = true := by
  rw [Cod.evn_true]
  intro r hr
  cases D with
  | nil => cases hr
  | cons a l => rw [h r hr, Cod.len0_eq (by simp), h _ (by simp)]
set_option maxHeartbeats 8000000 in
theorem lawLFinds (k m : Int) (Ab : Option Addr) (nb cb : Nat) (bs : List UInt8) (most : Int) (As : Option Addr) (ns cs : Nat) (X : List Spt) (w : World) (hk : -9223372036854775808 ≤ k ∧ k ≤ 9223372036854775807) (hm : -9223372036854775808 ≤ m ∧ m ≤ 9223372036854775807) (hmo : -9223372036854775808 ≤ most ∧ most ≤ 9223372036854775807)
    (hrb : Rd w w.heap.size Ab (bs.map bv)) (hnb : bs.length = nb) (hcb : nb ≤ cb) (hcbm : cb ≤ maxLen) (hrs : Rd w w.heap.size As (X.map sptRow).flatten) (hns : X.length = ns) (hcs : ns ≤ cs) (hcsm : cs ≤ maxLen) (hX : ∀ y ∈ X, y.ok) :
    Calls Tryz.prog 3 #[.int .i64 k, .int .i64 m, .slice Ab nb cb, .int .i64 most, .slice As ns cs] w fun e w' => e = .returned (.bool true) ∧ Below w.heap.size w w' := by
  have HFR := Lib.hid lawFinds
  have hcbm' := hcbm
  have hcsm' := hcsm
  unfold maxLen at hcbm' hcsm'
  have HRB := Lib.hid hrb
  have HNB := Lib.hid hnb
  have HRS := Lib.hid hrs
  have HNS := Lib.hid hns
  have HX := Lib.hid hX
  clear hrb hnb hrs hns hX
  by_cases hmay : mayC k m
  rotate_left
  · have HN0 := Lib.hid (fun p W => cdNew0 p k m hmay hk hm W)
    clear hmay HRB HNB HRS HNS HX
    go_enter Tryz.func3, Tryz.ntmps3
    go_wp2_with fail
    refine (fldNewA _).mono ?_
    rintro e w1 ⟨rfl, hf, hz, hb0⟩
    have HB1 := Lib.hid (hb0 w.heap.size w (Nat.le_refl _) (Below.refl _ _))
    clear hb0 hz hf
    go_wp2_with fail
    refine (HN0.out _ w1).mono ?_
    rintro e w2 ⟨rfl, rfl⟩
    go_wp2_with fail
    refine (HFR.out _).mono ?_
    rintro e w9 ⟨rfl, hb9⟩
    have HB9 := Lib.hid (HB1.out.via hb9)
    clear hb9
    go_wp2
    go_ret
    exact ⟨rfl, HB9.out⟩
  obtain ⟨hm1, hm2, hm3, hm4⟩ := hmay
  obtain ⟨k, rfl⟩ : ∃ n : Nat, k = (n : Int) := ⟨k.toNat, by omega⟩
  obtain ⟨m, rfl⟩ : ∃ n : Nat, m = (n : Int) := ⟨m.toNat, by omega⟩
  have hs : k + m ≤ 255 := by omega
  have hwkm : IntKind.i64.wrap ((k : Int) + (m : Int)) = (k : Int) + (m : Int) := by rw [IntKind.wrap_i64]; omega
  have HN := Lib.hid (fun V h => cdNew w.heap.size k m (by omega) (by omega) hs V h)
  by_cases hgo : 12 < k + m ∨ 200 < nb ∨ nb = 0 ∨ most < 0 ∨ 2 < most ∨ (m : Int) < 2 * most ∨ 20 < ns
  · have hgo2 : (12 < (k : Int) + m) ∨ ((k : Int) + m ≤ 12 ∧ 200 < nb) ∨ ((k : Int) + m ≤ 12 ∧ nb = 0) ∨ ((k : Int) + m ≤ 12 ∧ nb ≤ 200 ∧ 0 < nb ∧ most < 0) ∨ ((k : Int) + m ≤ 12 ∧ nb ≤ 200 ∧ 0 < nb ∧ 0 ≤ most ∧ 2 < most) ∨ ((k : Int) + m ≤ 12 ∧ nb ≤ 200 ∧ 0 < nb ∧ 0 ≤ most ∧ most ≤ 2 ∧ (m : Int) < 2 * most) ∨ ((k : Int) + m ≤ 12 ∧ nb ≤ 200 ∧ 0 < nb ∧ 0 ≤ most ∧ most ≤ 2 ∧ 2 * most ≤ (m : Int) ∧ 20 < ns) := by omega
    clear hgo HRB HNB HRS HNS HX
    go_enter Tryz.func3, Tryz.ntmps3
    go_wp2_with fail
    refine (fldNewA _).mono ?_
    rintro e w1 ⟨rfl, hf, hz, hb0⟩
    have hb1 := hb0 w.heap.size w (Nat.le_refl _) (Below.refl _ _)
    clear hb0 hz
    go_wp2_with fail
    refine (HN.out w1 hf).mono ?_
    rintro e w2 ⟨g, A1, c1, rfl, hg, hC, hs2⟩
    have HB2 := Lib.hid (hs2.below hb1 (Nat.le_refl _) hb1.size)
    clear hs2 hb1 hg hC hf HN
    rcases hgo2 with g1 | ⟨g1, g2⟩ | ⟨g1, g2⟩ | ⟨g1, g2, g3, g4⟩ | ⟨g1, g2, g3, g4, g5⟩ | ⟨g1, g2, g3, g4, g5, g6⟩ | ⟨g1, g2, g3, g4, g5, g6, g7⟩
    all_goals
      first | have hnz : ((nb : Int) == 0) = true := by (simp; omega) | have hnz : ((nb : Int) == 0) = false := by (simp; omega) | skip
      have hw2 : (0 ≤ most ∧ most ≤ 2) → IntKind.i64.wrap (2 * most) = 2 * most := fun h => by rw [IntKind.wrap_i64] <;> omega
      go_wp2_with (go_at_call 7; refine (HFR.out _).mono ?_; rintro e w9 ⟨rfl, hb9⟩)
      all_goals (go_ret; exact ⟨rfl, HB2.out.via hb9⟩)
  obtain ⟨most, rfl⟩ := Int.eq_ofNat_of_zero_le (show 0 ≤ most by omega)
  have hkm12 : k + m ≤ 12 := by omega
  have hnb1 : 0 < nb := by omega
  have hnb2 : nb ≤ 200 := by omega
  have hmo2 : most ≤ 2 := by omega
  have hmm : 2 * most ≤ m := by omega
  have hns20 : ns ≤ 20 := by omega
  have hk1 : 1 ≤ k := by omega
  have hkI : (k : Int) + (m : Int) ≤ 12 := by omega
  have hmI : 2 * (most : Int) ≤ (m : Int) := by omega
  have hwm : IntKind.i64.wrap (2 * (most : Int)) = 2 * (most : Int) := by rw [IntKind.wrap_i64] <;> omega
  have hnz : ((nb : Int) == 0) = false := by simp; omega
  have hle : nb ≤ k * nb := Nat.le_mul_of_pos_left nb hk1
  obtain ⟨n, hn⟩ : ∃ n, k + m = n := ⟨_, rfl⟩
  have hnI : (k : Int) + (m : Int) = (n : Int) := by omega
  clear hgo hm1 hm2 hm3 hm4 hmo hk hm
  go_enter Tryz.func3, Tryz.ntmps3
  go_wp2_with fail
  refine (fldNewA _).mono ?_
  rintro e w1 ⟨rfl, hf, hz, hb0⟩
  have hb1 := hb0 w.heap.size w (Nat.le_refl _) (Below.refl _ _)
  clear hb0 hz
  go_wp2_with fail
  refine (HN.out w1 hf).mono ?_
  rintro e w2 ⟨g, A1, c1, rfl, hg, hC, hs2⟩
  have HB2 := Lib.hid (hs2.below hb1 (Nat.le_refl _) hb1.size)
  have HC2 := Lib.hid hC
  have HSP := Lib.hid (cdSplit hC w.heap.size Ab nb cb nb bs (HRB.out.below HB2.out) HB2.out.size HNB.out hcb hcbm ⟨hnb1, by omega⟩ hle)
  obtain ⟨D, hD⟩ : ∃ D, Cod.splitD bs nb k = D := ⟨_, rfl⟩
  have HDW : Hid (∀ r ∈ D, r.length = nb) := Lib.hid (by rw [← hD]; exact split_evn)
  have HDL : Hid (D.length = k) := Lib.hid (by rw [← hD]; exact Cod.splitD_length _ _ _)
  rw [hD] at HSP
  clear hs2 hb1 hg hC hf HN hD HRB HNB
  go_wp2_with fail
  refine HSP.out.mono ?_
  rintro e w3 ⟨A3, n3, c3, L3, rfl, hL3, hn3, ho3, hR3, hb3⟩
  have HB3 := Lib.hid (HB2.out.via hb3)
  have HB23 := Lib.hid hb3
  have hL3k : L3.length = k := by rw [← HDL.out, ← hL3, List.length_map]
  obtain rfl : k = n3 := by rw [← hn3, hL3k]
  have hbss : bss L3 = D := hL3
  have HAL := Lib.hid fun V (hV : Below w3.heap.size w3 V) => cdAllR (HC2.out.below (HB23.out.via hV)) L3 V.heap.size A3 c3 (Rd.of_own (own_via ho3 hV)) (hR3.below hV).at (Nat.le_refl _) hL3k (by rw [hbss]; exact evn_of HDW.out) (fun r hr => by
    have h1 := (hR3.at r hr).len
    have h2 := HDW.out r.bs (by rw [← hbss]; exact List.mem_map_of_mem hr)
    omega)
  simp only [hbss, hn] at HAL
  clear hb3 hL3 hn3 ho3 hR3 hL3k hbss HSP
  go_wp2_with fail
  refine (HAL.out w3 (Below.refl _ _)).mono ?_
  rintro e w4 ⟨A4, n4, c4, L4, rfl, hL4, hn4, ho4, hR4, hb4⟩
  have HB4 := Lib.hid (HB3.out.via hb4)
  have HB24 := Lib.hid (HB23.out.via hb4)
  have hL4n : L4.length = n := by rw [← Cod.shards_length k D n, ← hL4, List.length_map]
  obtain rfl : n = n4 := by rw [← hn4, hL4n]
  have HO4 := Lib.hid ho4
  have HR4 := Lib.hid hR4
  have HL4 : Hid (bss L4 = Cod.shards k D n) := Lib.hid hL4
  have HN4 := Lib.hid hL4n
  have HA5 := Lib.hid (HAL.out w4 hb4)
  clear hL4 hn4 ho4 hR4 hb4 hL4n HAL
  go_wp2_with fail
  refine HA5.out.mono ?_
  rintro e w5 ⟨A5, n5, c5, L5, rfl, hL5, hn5, ho5, hR5, hb5⟩
  have HB5 := Lib.hid (HB4.out.via hb5)
  have hL5n : L5.length = n := by rw [← Cod.shards_length k D n, ← hL5, List.length_map]
  obtain rfl : n = n5 := by rw [← hn5, hL5n]
  have HST0 : Hid (Sts w4 A5 n c5 L5 w5) := Lib.hid ⟨ho5, hR5, hb5⟩
  have HLW0 : Hid (L5.length = n ∧ ∀ r ∈ L5, r.bs.length = nb) := Lib.hid ⟨hL5n, fun r hr => by
    have h1 : r.bs ∈ Cod.shards k D n := by rw [← hL5]; exact List.mem_map_of_mem hr
    simp only [Cod.shards, List.mem_map] at h1
    obtain ⟨j, _, h1⟩ := h1
    rw [← h1, Cod.shard_length, Cod.len0_eq (by rw [HDL.out]; exact hk1)]
    exact HDW.out _ (List.getElem_mem _)⟩
  have hcp5 := own_cap ho5
  obtain ⟨hcp5, hcp5m⟩ := hcp5
  have hne1 : ((n : Int) != (n : Int)) = false := by simp
  clear hL5 hn5 ho5 hR5 hb5 hL5n HA5
  go_wp2
  go_loopw [18, 19, 20] (fun i _ _ wr => ∃ (p : Nat) (L : List RowB), i = .int .i64 p ∧ p ≤ ns ∧ Hid (Sts w4 A5 n c5 L wr) ∧ Hid (L.length = n ∧ ∀ r ∈ L, r.bs.length = nb)) (fun i _ _ _ => ns - (intOf i).toNat)
  case atStart => exact ⟨0, L5, rfl, Nat.zero_le _, HST0, HLW0⟩
  case round =>
    clear HST0 HLW0
    obtain ⟨p, L, rfl, hp, HST, HLW⟩ := hrel
    by_cases hlt : p < ns
    · have hpl : p < X.length := by rw [HNS.out]; exact hlt
      obtain ⟨bS, oS, rfl, hbS, s0, s1, s2⟩ := spt_at HRS.out hpl
      have hxo := HX.out _ (List.getElem_mem hpl)
      generalize X[p] = x at *
      obtain ⟨xr, xa, xm⟩ := x
      obtain ⟨hxr, hxa, hxm⟩ := hxo
      simp only at hxr hxa hxm s0 s1 s2
      have HCS := Lib.hid fun V (hV : Below w4.heap.size w4 V) => ((⟨((HB4.out.via hV).cell (p := ⟨bS, oS + p * 3, none⟩) hbS).trans s0, ((HB4.out.via hV).cell (p := ⟨bS, oS + p * 3 + 1, none⟩) hbS).trans s1, ((HB4.out.via hV).cell (p := ⟨bS, oS + p * 3 + 2, none⟩) hbS).trans s2⟩ : V.cell? ⟨bS, oS + p * 3, none⟩ = some (.int .i64 xr) ∧ V.cell? ⟨bS, oS + p * 3 + 1, none⟩ = some (.int .i64 xa) ∧ V.cell? ⟨bS, oS + p * 3 + 2, none⟩ = some (.int .u8 (xm : Int))))
      clear s0 s1 s2 hbS hpl
      obtain ⟨s0, s1, s2⟩ := HCS.out wr HST.out.below
      obtain ⟨Rw, hRw, hRwn⟩ := clampN8 xr (n := n) (by omega)
      obtain ⟨K, hK, hKn⟩ := clampN8 xa hnb1
      have hat : Rw < L.length := by rw [HLW.out.1]; exact hRwn
      obtain ⟨ad, gr, rc, rb, rfl, hlt1, hlt2, hrow, hcell, hbyte, hfro, hset⟩ := HST.out.spot2 (at_ := Rw) (spot := K) hat (HLW.out.2 _ (List.getElem_mem hat)) hKn
      have hrbl : rb.length = nb := by
        have := HLW.out.2 _ (List.getElem_mem hat)
        rw [hrow] at this
        exact this
      have hx8 : (rb.getD K 0).toNat < 256 := UInt8.toNat_lt _
      obtain ⟨z, hz8, hzn⟩ := byte_mk (Fld.xor_lt hx8 hxm)
      have hxx := u8_xor_nat _ _ hx8 hxm
      rw [hzn] at hxx
      obtain ⟨x, hx⟩ : ∃ x, (rb.getD K 0).toNat = x := ⟨_, rfl⟩
      rw [hx] at hbyte hxx hx8
      have HST1 : Hid (Sts w4 (some ad) n c5 (L.set Rw ⟨some ⟨gr, 0, none⟩, nb, rc, rb.set K z⟩) (wr.setCell ⟨gr, K, none⟩ (.int .u8 (z.toNat : Int))).drew) := Lib.hid (hset z 1)
      have HLW1 : Hid ((L.set Rw ⟨some ⟨gr, 0, none⟩, nb, rc, rb.set K z⟩).length = n ∧ ∀ r ∈ L.set Rw ⟨some ⟨gr, 0, none⟩, nb, rc, rb.set K z⟩, r.bs.length = nb) := Lib.hid ⟨by rw [List.length_set]; exact HLW.out.1, fun r hr => by
        rcases List.mem_or_eq_of_mem_set hr with h1 | rfl
        · exact HLW.out.2 r h1
        · show (rb.set K z).length = nb
          rw [List.length_set]
          exact hrbl⟩
      have hd1 : wr.drew.cell? (ad.add Rw) = some (.slice (some ⟨gr, 0, none⟩) nb rc) ∧ wr.drew.cell? ⟨bS, oS + p * 3 + 2, none⟩ = some (.int .u8 (xm : Int)) := ⟨hcell, s2⟩
      have hd2 : wr.drew.cell? ⟨gr, K, none⟩ = some (.int .u8 (x : Int)) := hbyte
      have hd3 : wr.drew.frozen? ⟨gr, K, none⟩ = false := hfro
      have hd4 : (wr.setCell ⟨gr, K, none⟩ (.int .u8 (z.toNat : Int))).drew.cell? (ad.add Rw) = some (.slice (some ⟨gr, 0, none⟩) nb rc) ∧ (wr.setCell ⟨gr, K, none⟩ (.int .u8 (z.toNat : Int))).drew.cell? ⟨bS, oS + p * 3 + 2, none⟩ = some (.int .u8 (xm : Int)) := ⟨HST1.out.cell (at_ := Rw) (by rw [List.length_set]; exact hat) (List.getElem_set_self _), (HCS.out _ HST1.out.below).2.2⟩
      have HDD1 := Lib.hid hd1
      have HDD4 := Lib.hid hd4
      have hatI : (Rw : Int) < (n : Int) := by omega
      have hspI : (K : Int) < (nb : Int) := by omega
      have HE1 := Lib.hid hlt1
      have HE2 := Lib.hid hlt2
      clear hset hrow hcell hbyte hfro hlt1 hlt2 hat hd1 hd4 HST HLW hz8 hzn hrbl hx HCS
      go_upto_region 12 with fail
      go_cut [19] (fun r wx => r = .int .i64 (Rw : Int) ∧ wx = wr)
      case first =>
        have hRw' := hRw.out
        clear hRw hK HST1 HLW1 HDD1 HDD4 hd2 hd3
        go_wp2_with fail
        all_goals (go_meet; exact ⟨int_eq (by omega), rfl⟩)
      case rest =>
      obtain ⟨rfl, hwx⟩ := hcut
      replace hwx := hwx.symm
      subst hwx
      clear hRw
      go_upto_region 13 with fail
      go_cut [20] (fun r wx => r = .int .i64 (K : Int) ∧ wx = wr)
      case first =>
        have hK' := hK.out
        clear hK HST1 HLW1 HDD1 HDD4 hd2 hd3
        go_wp2_with fail
        all_goals (go_meet; exact ⟨int_eq (by omega), rfl⟩)
      case rest =>
      obtain ⟨rfl, hwx⟩ := hcut
      replace hwx := hwx.symm
      subst hwx
      clear hK
      go_upto_region 14 with fail
      refine wp_region_held_drew (S := (fun wQq => wQq.cell? (ad.add Rw) = some (.slice (some ⟨gr, 0, none⟩) nb rc) ∧ wQq.cell? ⟨bS, oS + p * 3 + 2, none⟩ = some (.int .u8 (xm : Int)))) (by kernel_rfl) (HDD1.out) (fun _ => ?_)
      refine wpAnyH_take (i := 0) (v := ?_) rfl (by kernel_rfl) (by kernel_rfl) (by kernel_rfl) (fun _ _ _ h => h) (Or.inl ⟨by rfl, ?_⟩) (HDD1.out) ?_
      rotate_left
      · intro wS hSw
        go_simp
        try with_reducible rfl
      try simp only [List.getElem_toArray, List.getElem_cons_zero, List.getElem_cons_succ, Act.put, List.setIfInBounds_toArray, List.set_cons_zero, List.set_cons_succ]
      refine wpAnyH_take (i := 1) (v := ?_) rfl (by kernel_rfl) (by kernel_rfl) (by kernel_rfl) (fun _ _ _ h => h) (Or.inl ⟨by rfl, ?_⟩) (HDD1.out) ?_
      rotate_left
      · intro wS hSw
        go_simp
        try with_reducible rfl
      try simp only [List.getElem_toArray, List.getElem_cons_zero, List.getElem_cons_succ, Act.put, List.setIfInBounds_toArray, List.set_cons_zero, List.set_cons_succ]
      refine wpAnyH_take (i := 2) (v := ?_) rfl (by kernel_rfl) (by kernel_rfl) (by kernel_rfl) (fun _ _ _ h => h) (Or.inl ⟨by rfl, ?_⟩) (HDD1.out) ?_
      rotate_left
      · intro wS hSw
        go_simp
        try with_reducible rfl
      try simp only [List.getElem_toArray, List.getElem_cons_zero, List.getElem_cons_succ, Act.put, List.setIfInBounds_toArray, List.set_cons_zero, List.set_cons_succ]
      refine wpAnyH_take (i := 4) (v := ?_) rfl (by kernel_rfl) (by kernel_rfl) (by kernel_rfl) (fun _ _ _ h => h) (Or.inl ⟨by rfl, ?_⟩) (HDD1.out) ?_
      rotate_left
      · intro wS hSw
        go_simp
        try with_reducible rfl
      try simp only [List.getElem_toArray, List.getElem_cons_zero, List.getElem_cons_succ, Act.put, List.setIfInBounds_toArray, List.set_cons_zero, List.set_cons_succ]
      refine wpAnyH_take (i := 5) (v := ?_) rfl (by kernel_rfl) (by kernel_rfl) (by kernel_rfl) (fun _ _ _ h => h) (Or.inl ⟨by rfl, ?_⟩) (HDD1.out) ?_
      rotate_left
      · intro wS hSw
        go_simp
        try with_reducible rfl
      try simp only [List.getElem_toArray, List.getElem_cons_zero, List.getElem_cons_succ, Act.put, List.setIfInBounds_toArray, List.set_cons_zero, List.set_cons_succ]
      refine wpAnyH_take (i := 6) (v := ?_) rfl (by kernel_rfl) (by kernel_rfl) (by kernel_rfl) (fun _ _ _ h => h) (Or.inl ⟨by rfl, ?_⟩) (HDD1.out) ?_
      rotate_left
      · intro wS hSw
        go_simp
        try with_reducible rfl
      try simp only [List.getElem_toArray, List.getElem_cons_zero, List.getElem_cons_succ, Act.put, List.setIfInBounds_toArray, List.set_cons_zero, List.set_cons_succ]
      refine wpAnyH_take (i := 7) (v := ?_) rfl (by kernel_rfl) (by kernel_rfl) (by kernel_rfl) (fun _ _ _ h => h) (Or.inl ⟨by rfl, ?_⟩) (HDD1.out) ?_
      rotate_left
      · intro wS hSw
        go_simp
        try with_reducible rfl
      try simp only [List.getElem_toArray, List.getElem_cons_zero, List.getElem_cons_succ, Act.put, List.setIfInBounds_toArray, List.set_cons_zero, List.set_cons_succ]
      refine wpAnyH_take (i := 9) (v := ?_) rfl (by kernel_rfl) (by kernel_rfl) (by kernel_rfl) (fun _ _ _ h => h) (Or.inl ⟨by rfl, ?_⟩) (HDD1.out) ?_
      rotate_left
      · intro wS hSw
        go_simp
        try with_reducible rfl
      try simp only [List.getElem_toArray, List.getElem_cons_zero, List.getElem_cons_succ, Act.put, List.setIfInBounds_toArray, List.set_cons_zero, List.set_cons_succ]
      refine wpAnyH_take (i := 12) (v := ?_) rfl (by kernel_rfl) (by kernel_rfl) (by kernel_rfl) (fun _ _ _ h => h) (Or.inl ⟨by rfl, ?_⟩) (HDD1.out) ?_
      rotate_left
      · intro wS hSw
        go_simp
        try with_reducible rfl
      try simp only [List.getElem_toArray, List.getElem_cons_zero, List.getElem_cons_succ, Act.put, List.setIfInBounds_toArray, List.set_cons_zero, List.set_cons_succ]
      refine wpAnyH_take (i := 13) (v := ?_) rfl (by kernel_rfl) (by kernel_rfl) (by kernel_rfl) (fun _ _ _ h => h) (Or.inl ⟨by rfl, ?_⟩) (HDD1.out) ?_
      rotate_left
      · intro wS hSw
        go_simp
        try with_reducible rfl
      try simp only [List.getElem_toArray, List.getElem_cons_zero, List.getElem_cons_succ, Act.put, List.setIfInBounds_toArray, List.set_cons_zero, List.set_cons_succ]
      refine wpAnyH_take (i := 14) (v := ?_) rfl (by kernel_rfl) (by kernel_rfl) (by kernel_rfl) (fun _ _ _ h => h) (Or.inl ⟨by rfl, ?_⟩) (HDD1.out) ?_
      rotate_left
      · intro wS hSw
        go_simp
        try with_reducible rfl
      try simp only [List.getElem_toArray, List.getElem_cons_zero, List.getElem_cons_succ, Act.put, List.setIfInBounds_toArray, List.set_cons_zero, List.set_cons_succ]
      refine wpAnyH_take (i := 15) (v := ?_) rfl (by kernel_rfl) (by kernel_rfl) (by kernel_rfl) (fun _ _ _ h => h) (Or.inl ⟨by rfl, ?_⟩) (HDD1.out) ?_
      rotate_left
      · intro wS hSw
        go_simp
        try with_reducible rfl
      try simp only [List.getElem_toArray, List.getElem_cons_zero, List.getElem_cons_succ, Act.put, List.setIfInBounds_toArray, List.set_cons_zero, List.set_cons_succ]
      refine wpAnyH_take (i := 3) (v := ?_) rfl (by kernel_rfl) (by kernel_rfl) (by kernel_rfl) (fun _ _ _ h => h) (Or.inl ⟨by rfl, ?_⟩) (HDD1.out) ?_
      rotate_left
      · intro wS hSw
        have hcv := hSw.1
        go_simp
        try with_reducible rfl
      try simp only [List.getElem_toArray, List.getElem_cons_zero, List.getElem_cons_succ, Act.put, List.setIfInBounds_toArray, List.set_cons_zero, List.set_cons_succ]
      refine wpAnyH_take (i := 8) (v := ?_) rfl (by kernel_rfl) (by kernel_rfl) (by kernel_rfl) (fun _ _ _ h => h) (Or.inl ⟨by rfl, ?_⟩) (HDD1.out) ?_
      rotate_left
      · intro wS hSw
        have hcv := hSw.1
        go_simp
        try with_reducible rfl
      try simp only [List.getElem_toArray, List.getElem_cons_zero, List.getElem_cons_succ, Act.put, List.setIfInBounds_toArray, List.set_cons_zero, List.set_cons_succ]
      refine wpAnyH_take (i := 10) (v := ?_) rfl (by kernel_rfl) (by kernel_rfl) (by kernel_rfl) (fun _ _ _ h => h) (Or.inl ⟨by rfl, ?_⟩) (HDD1.out) ?_
      rotate_left
      · intro wS hSw
        go_simp
        try with_reducible rfl
      try simp only [List.getElem_toArray, List.getElem_cons_zero, List.getElem_cons_succ, Act.put, List.setIfInBounds_toArray, List.set_cons_zero, List.set_cons_succ]
      refine wpAnyH_take (i := 16) (v := ?_) rfl (by kernel_rfl) (by kernel_rfl) (by kernel_rfl) (fun _ _ _ h => h) (Or.inl ⟨by rfl, ?_⟩) (HDD1.out) ?_
      rotate_left
      · intro wS hSw
        have hcv := hSw.2
        go_simp
        try with_reducible rfl
      try simp only [List.getElem_toArray, List.getElem_cons_zero, List.getElem_cons_succ, Act.put, List.setIfInBounds_toArray, List.set_cons_zero, List.set_cons_succ]
      refine wpAnyH_ready (rs := [11]) (by kernel_rfl) (by simp) ?_
      refine AllReadyH.cons rfl (fun K hK => ?_) AllReadyH.nil
      go_simp
      refine hK.out _ _ HDD1.out (fun _ => ?_)
      clear hK K
      try simp only [List.getElem_toArray, List.getElem_cons_zero, List.getElem_cons_succ, Act.put, List.setIfInBounds_toArray, List.set_cons_zero, List.set_cons_succ]
      refine wpAnyH_take (i := 17) (v := ?_) rfl (by kernel_rfl) (by kernel_rfl) (by kernel_rfl) (fun _ _ _ h => h) (Or.inl ⟨by rfl, ?_⟩) HDD1.out ?_
      rotate_left
      · intro wS hSw
        go_simp
        try with_reducible rfl
      try simp only [List.getElem_toArray, List.getElem_cons_zero, List.getElem_cons_succ, Act.put, List.setIfInBounds_toArray, List.set_cons_zero, List.set_cons_succ]
      refine wpAnyH_take (i := 18) (v := ?_) rfl (by kernel_rfl) (by kernel_rfl) (by kernel_rfl) (fun _ _ _ h => h) (Or.inl ⟨by rfl, ?_⟩) HDD1.out ?_
      rotate_left
      · intro wS hSw
        go_simp
        try with_reducible rfl
      try simp only [List.getElem_toArray, List.getElem_cons_zero, List.getElem_cons_succ, Act.put, List.setIfInBounds_toArray, List.set_cons_zero, List.set_cons_succ]
      refine wpAnyH_ready (rs := [19]) (by kernel_rfl) (by simp) ?_
      refine AllReadyH.cons rfl (fun K hK => ?_) AllReadyH.nil
      go_simp
      refine hK.out _ _ HDD4.out (fun _ => ?_)
      clear hK K
      try simp only [List.getElem_toArray, List.getElem_cons_zero, List.getElem_cons_succ, Act.put, List.setIfInBounds_toArray, List.set_cons_zero, List.set_cons_succ]
      refine wpAnyH_done (by kernel_rfl) ?_ _
      clear HDD1 HDD4 hd2 hd3
      generalize (wr.setCell ⟨gr, K, none⟩ (.int .u8 (z.toNat : Int))).drew = w6 at *
      clear hxx hatI hspI HE1 HE2 s0 s1 s2
      go_wp2
      go_roundw
      case rel => exact ⟨p + 1, _, by go_num, hlt, HST1, HLW1⟩
      case measure => simp [intOf]; omega
    · obtain rfl : ns = p := by omega
      have hrd := Rd.of_own (own_via HO4.out HST.out.below)
      have hLn : ∀ r ∈ L, r.n = nb := fun r hr => by rw [← (HST.out.rows.at r hr).len]; exact HLW.out.2 r hr
      have HDF := Lib.hid (refDiffer8 L4 L wr.heap.size A4 A5 n c4 n c5 wr hrd (HR4.out.below HST.out.below).at (Rd.of_own HST.out.own) HST.out.rows.at HN4.out HLW.out.1 (Nat.le_refl _) (by omega) (by omega))
      rw [Nat.max_self, HL4.out] at HDF
      obtain ⟨dl, hdl⟩ : ∃ dl, Loc.dif (Cod.shards k D n) (bss L) n = dl := ⟨_, rfl⟩
      rw [hdl] at HDF
      have HFI := Lib.hid fun V (hV : Below wr.heap.size wr V) => locFind (HC2.out.below (HB24.out.via (HST.out.below.via hV))) L V.heap.size A5 n c5 (Rd.of_own (own_via HST.out.own hV)) (HST.out.rows.below hV).at (Nat.le_refl _) HLW.out.1 hn.symm hcp5 hcp5m nb hnb1 (by omega) hLn most (by omega) hmo2 hmm
      have HFG : Hid (∀ V, Below wr.heap.size wr V → dl.length ≤ most → Calls Tryz.prog 11 #[.pointer (some ⟨g, 0, none⟩), .slice A5 n c5, .int .i64 (most : Int)] V fun e W => Below V.heap.size V W ∧ ∃ A' c' M Ad cd, e = .returned (.tuple #[.slice A' n c', .slice Ad dl.length cd, .int .i64 0]) ∧ M.length = n ∧ Rd W W.heap.size A' (M.map RowB.v) ∧ RowsAt W W.heap.size M ∧ bss M = Cod.shards k D n ∧ Rd W W.heap.size Ad (dl.map iv)) := Lib.hid fun V hV hle => (HFI.out V hV).mono fun e W ⟨hb, hor⟩ => by
        refine ⟨hb, ?_⟩
        rcases hor with ⟨A', c', M, E, Ad, qd, cd, rfl, hM, _, _, hrM, hRM, hE, hw, hME, hq, hqm, hrdd⟩ | ⟨_, hno⟩
        · have hED : E = D := near_one hk1 hs hn.symm hmm (by rw [bss_length]; exact HLW.out.1) hE HDL.out hw HDW.out (by rw [hq]; exact hqm) (by rw [hdl]; exact hle)
          subst hED
          rw [hdl] at hq hrdd
          subst hq
          exact ⟨A', c', M, Ad, cd, rfl, hM, hrM, hRM, hME, hrdd⟩
        · have := hno D HDL.out HDW.out
          rw [hdl] at this
          omega
      have HBW := Lib.hid (HB4.out.via HST.out.below)
      have HSB := Lib.hid HST.out.below
      have hdlm : dl.length ≤ 12 := by
        have := Loc.dif_le (Cod.shards k D n) (bss L) n
        rw [hdl] at this
        omega
      clear hdl hrd hLn HFI HST HLW HC2 HX hlt hp HB2 HB24
      go_wp2_with fail
      refine HDF.out.mono ?_
      rintro e w6 ⟨A6, n6, c6, rfl, hn6, ho6, hb6⟩
      have HN6 := Lib.hid hn6
      have HO6 := Lib.hid ho6
      have HB6 := Lib.hid hb6
      have HBW6 := Lib.hid (HBW.out.via hb6)
      have hn6m : n6 ≤ 12 := by omega
      clear ho6 hb6 HDF
      by_cases hqm : most < n6
      · clear hn6
        go_wp2_with (go_at_call 7; refine (HFR.out _).mono ?_; rintro e w9 ⟨rfl, hb9⟩)
        go_ret
        exact ⟨rfl, HBW6.out.via hb9⟩
      · have HFF := Lib.hid (HFG.out w6 HB6.out (by omega))
        rw [hn6] at HFF
        clear hn6 HFG
        go_wp2_with fail
        refine HFF.out.mono ?_
        rintro e w7 ⟨hb7, A7, c7, M7, Ad7, cd7, rfl, hM7, hr7, hR7, hbs7, hrd7⟩
        have HBW7 := Lib.hid (HBW6.out.via hb7)
        have HS7 := Lib.hid (refSame5 M7 L4 w7.heap.size A7 A4 n c7 n c4 w7 hr7 hR7 (Rd.of_own (own_via HO4.out (HSB.out.via (HB6.out.via hb7)))) (HR4.out.below (HSB.out.via (HB6.out.via hb7))).at hM7 HN4.out (Nat.le_refl _) (by unfold maxLen; omega) (by unfold maxLen; omega))
        have HSE : Hid (bss M7 = bss L4) := Lib.hid (hbs7.trans HL4.out.symm)
        have HIN := Lib.hid fun V (hV : Below w7.heap.size w7 V) => refInts Ad7 A6 n6 n6 cd7 c6 V.heap.size dl dl V ((hrd7.below hV).more hV.size) (Rd.of_own (own_via HO6.out (hb7.via hV))) HN6.out HN6.out (by omega) (Nat.le_refl _)
        rw [decide_eq_true rfl] at HIN
        clear hb7 hM7 hr7 hR7 hbs7 hrd7 HFF
        go_wp2_with fail
        refine HS7.out.mono ?_
        rintro e w8 ⟨⟨x, rfl, hx⟩, hb8⟩
        obtain rfl : x = true := hx.2 HSE.out
        have HB78 := Lib.hid hb8
        have HBW8 := Lib.hid (HBW7.out.via hb8)
        clear hx hb8 HS7 HSE
        go_wp2_with fail
        refine (HIN.out w8 HB78.out).mono ?_
        rintro e w9 ⟨rfl, hb9⟩
        have HBW9 := Lib.hid (HBW8.out.via hb9)
        clear hb9 HIN
        go_wp2_with fail
        refine (HFR.out w9).mono ?_
        rintro e wz ⟨rfl, hbz⟩
        have HBZ := Lib.hid (HBW9.out.via hbz)
        clear hbz
        go_wp2
        go_ret
        exact ⟨rfl, HBZ.out⟩
end Cib
