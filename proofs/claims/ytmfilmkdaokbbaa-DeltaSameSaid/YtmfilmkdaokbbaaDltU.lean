/- Update; the document's Sum, Spread, Update. -/
import Derived.Test.YtmfilmkdaokbbaaDltS
import Derived.Test.YtmfilmkdaokbbaaAny
set_option linter.unusedVariables false
set_option linter.unusedSimpArgs false
set_option maxRecDepth 40000
namespace Cib
open Go Go.RowKit Go.Proofs
set_option maxHeartbeats 800000 in
theorem refSum7 (A1 A2 : Option Addr) (n1 c1 n2 c2 : Nat) (a b : List UInt8) (B : Nat) (w : World) (h1 : Rd w B A1 (a.map bv)) (h2 : Rd w B A2 (b.map bv)) (hn1 : a.length = n1) (hn2 : b.length = n2) (hB : B ≤ w.heap.size) (hl1 : n1 ≤ 1000000000) (hl2 : n2 ≤ 1000000000) :
    Calls Try.prog 39 #[.slice A1 n1 c1, .slice A2 n2 c2] w (NewB (addB a b) w) := by
  have H1 := Lib.hid h1
  have H2 := Lib.hid h2
  have HN1 := Lib.hid hn1
  have HN2 := Lib.hid hn2
  have HLL : Hid ((addB a b).length = min n1 n2) := (show _ = _ by rw [addB_length, hn1, hn2])
  clear h1 h2 hn1 hn2
  go_enter Try.func39, Try.ntmps39
  go_wp2
  go_loopw [5, 6] (fun l i wr => ∃ (q : Nat) (A : Option Addr) (c : Nat), i = .int .i64 q ∧ q ≤ n1 ∧ q ≤ n2 ∧ l = .slice A q c ∧ Hid (wr.ownsRow w.heap.size 5 1 (.slice A q c) q (((addB a b).take q).map bv)) ∧ Hid (Below w.heap.size w wr)) (fun _ i _ => n1 - (intOf i).toNat)
  case atStart => exact ⟨0, none, 0, rfl, Nat.zero_le _, Nat.zero_le _, rfl, World.ownsRow_nil _ _ _ _, Below.refl _ _⟩
  case round =>
    obtain ⟨q, A, c, rfl, hq1, hq2, rfl, HO, HB1⟩ := hrel
    have hz := HB1.out.size
    by_cases hlt1 : q < n1
    · by_cases hlt2 : q < n2
      · have hqa : q < a.length := by rw [HN1.out]; exact hlt1
        have hqb : q < b.length := by rw [HN2.out]; exact hlt2
        obtain ⟨ad1, rfl, hab1, hc1⟩ := (H1.out.below (HB1.out.mono hB)).byte hqa
        obtain ⟨ad2, rfl, hab2, hc2⟩ := (H2.out.below (HB1.out.mono hB)).byte hqb
        have HNX := Lib.hid (addB_take a b hqa hqb)
        have hd1 := a[q].toNat_lt
        have hd2 := b[q].toNat_lt
        have hx := u8_xor_nat _ _ hd1 hd2
        obtain ⟨z, hz8, hzn⟩ := byte_mk (Fld.xor_lt hd1 hd2)
        rw [hz8.out] at HNX
        rw [hzn] at hx
        generalize a[q].toNat = x1 at *
        generalize b[q].toNat = x2 at *
        have hca : wr.drew.cell? (ad1.add q) = some (.int .u8 (x1 : Int)) := hc1
        have hcb : wr.drew.cell? (ad2.add q) = some (.int .u8 (x2 : Int)) := hc2
        have hg1 : (ad1.add q).block < w.heap.size := by rw [addr_add_block]; omega
        have hg2 : (ad2.add q).block < w.heap.size := by rw [addr_add_block]; omega
        clear hc1 hc2 hz8 hzn
        go_wp2
        refine wp_region_held_drew (S := (fun wQq => Below w.heap.size wr.drew wQq)) (by kernel_rfl) (Below.refl _ _) (fun _ => ?_)
        refine wpAnyH_take (i := 0) (v := ?_) rfl (by kernel_rfl) (by kernel_rfl) (by kernel_rfl) (fun _ _ _ h => h) (Or.inl ⟨by rfl, ?_⟩) (Below.refl _ _) ?_
        rotate_left
        · intro wS hSw
          go_simp
          try with_reducible rfl
        try simp only [List.getElem_toArray, List.getElem_cons_zero, List.getElem_cons_succ, Act.put, List.setIfInBounds_toArray, List.set_cons_zero, List.set_cons_succ]
        refine wpAnyH_take (i := 1) (v := ?_) rfl (by kernel_rfl) (by kernel_rfl) (by kernel_rfl) (fun _ _ _ h => h) (Or.inl ⟨by rfl, ?_⟩) (Below.refl _ _) ?_
        rotate_left
        · intro wS hSw
          go_simp
          try with_reducible rfl
        try simp only [List.getElem_toArray, List.getElem_cons_zero, List.getElem_cons_succ, Act.put, List.setIfInBounds_toArray, List.set_cons_zero, List.set_cons_succ]
        refine wpAnyH_take (i := 2) (v := ?_) rfl (by kernel_rfl) (by kernel_rfl) (by kernel_rfl) (fun _ _ _ h => h) (Or.inl ⟨by rfl, ?_⟩) (Below.refl _ _) ?_
        rotate_left
        · intro wS hSw
          go_simp
          try with_reducible rfl
        try simp only [List.getElem_toArray, List.getElem_cons_zero, List.getElem_cons_succ, Act.put, List.setIfInBounds_toArray, List.set_cons_zero, List.set_cons_succ]
        refine wpAnyH_take (i := 3) (v := ?_) rfl (by kernel_rfl) (by kernel_rfl) (by kernel_rfl) (fun _ _ _ h => h) (Or.inl ⟨by rfl, ?_⟩) (Below.refl _ _) ?_
        rotate_left
        · intro wS hSw
          go_simp
          try with_reducible rfl
        try simp only [List.getElem_toArray, List.getElem_cons_zero, List.getElem_cons_succ, Act.put, List.setIfInBounds_toArray, List.set_cons_zero, List.set_cons_succ]
        refine wpAnyH_take (i := 5) (v := ?_) rfl (by kernel_rfl) (by kernel_rfl) (by kernel_rfl) (fun _ _ _ h => h) (Or.inl ⟨by rfl, ?_⟩) (Below.refl _ _) ?_
        rotate_left
        · intro wS hSw
          go_simp
          try with_reducible rfl
        try simp only [List.getElem_toArray, List.getElem_cons_zero, List.getElem_cons_succ, Act.put, List.setIfInBounds_toArray, List.set_cons_zero, List.set_cons_succ]
        refine wpAnyH_take (i := 6) (v := ?_) rfl (by kernel_rfl) (by kernel_rfl) (by kernel_rfl) (fun _ _ _ h => h) (Or.inl ⟨by rfl, ?_⟩) (Below.refl _ _) ?_
        rotate_left
        · intro wS hSw
          go_simp
          try with_reducible rfl
        try simp only [List.getElem_toArray, List.getElem_cons_zero, List.getElem_cons_succ, Act.put, List.setIfInBounds_toArray, List.set_cons_zero, List.set_cons_succ]
        refine wpAnyH_take (i := 7) (v := ?_) rfl (by kernel_rfl) (by kernel_rfl) (by kernel_rfl) (fun _ _ _ h => h) (Or.inl ⟨by rfl, ?_⟩) (Below.refl _ _) ?_
        rotate_left
        · intro wS hSw
          go_simp
          try with_reducible rfl
        try simp only [List.getElem_toArray, List.getElem_cons_zero, List.getElem_cons_succ, Act.put, List.setIfInBounds_toArray, List.set_cons_zero, List.set_cons_succ]
        refine wpAnyH_take (i := 4) (v := ?_) rfl (by kernel_rfl) (by kernel_rfl) (by kernel_rfl) (fun _ _ _ h => h) (Or.inl ⟨by rfl, ?_⟩) (Below.refl _ _) ?_
        rotate_left
        · intro wS hSw
          have hcv := ((hSw.cell (p := ad1.add q) hg1).trans hca)
          go_simp
          try with_reducible rfl
        try simp only [List.getElem_toArray, List.getElem_cons_zero, List.getElem_cons_succ, Act.put, List.setIfInBounds_toArray, List.set_cons_zero, List.set_cons_succ]
        refine wpAnyH_take (i := 8) (v := ?_) rfl (by kernel_rfl) (by kernel_rfl) (by kernel_rfl) (fun _ _ _ h => h) (Or.inl ⟨by rfl, ?_⟩) (Below.refl _ _) ?_
        rotate_left
        · intro wS hSw
          have hcv := ((hSw.cell (p := ad2.add q) hg2).trans hcb)
          go_simp
          try with_reducible rfl
        try simp only [List.getElem_toArray, List.getElem_cons_zero, List.getElem_cons_succ, Act.put, List.setIfInBounds_toArray, List.set_cons_zero, List.set_cons_succ]
        refine wpAnyH_take (i := 9) (v := ?_) rfl (by kernel_rfl) (by kernel_rfl) (by kernel_rfl) (fun _ _ _ h => h) (Or.inl ⟨by rfl, ?_⟩) (Below.refl _ _) ?_
        rotate_left
        · intro wS hSw
          go_simp
          try with_reducible rfl
        try simp only [List.getElem_toArray, List.getElem_cons_zero, List.getElem_cons_succ, Act.put, List.setIfInBounds_toArray, List.set_cons_zero, List.set_cons_succ]
        refine wpAnyH_ready (rs := [10]) (by kernel_rfl) (by simp) ?_
        refine AllReadyH.cons rfl (fun K hK => ?_) AllReadyH.nil
        go_simp
        refine hK.out _ _ (below_of_drew (below_drewN ((Below.refl w.heap.size wr).alloc hz _) 1)) (fun _ => ?_)
        clear hK K
        try simp only [List.getElem_toArray, List.getElem_cons_zero, List.getElem_cons_succ, Act.put, List.setIfInBounds_toArray, List.set_cons_zero, List.set_cons_succ]
        refine wpAnyH_ready (rs := [11]) (by kernel_rfl) (by simp) ?_
        refine AllReadyH.cons rfl (fun K hK => ?_) AllReadyH.nil
        refine wp_appB (.tmp 19) (.tmp 29) rfl w.heap.size A q c (((addB a b).take q).map bv) rfl (HO.out.alloc _) _ (some ⟨wr.heap.size, 0, none⟩) 1 1 [bv z] rfl rfl (Rd.new wr _ _ _ rfl).drew one_byte (by omega) (by simp; omega) ?_
        intro A3 c3 w3 ho3 hg3 hb3
        refine hK.out _ _ (below_of_drew ((below_drewN ((Below.refl w.heap.size wr).alloc hz _) 1).trans hb3)) (fun _ => ?_)
        clear hK K
        try simp only [List.getElem_toArray, List.getElem_cons_zero, List.getElem_cons_succ, Act.put, List.setIfInBounds_toArray, List.set_cons_zero, List.set_cons_succ]
        refine wpAnyH_take (i := 12) (v := ?_) rfl (by kernel_rfl) (by kernel_rfl) (by kernel_rfl) (fun _ _ _ h => h) (Or.inl ⟨by rfl, ?_⟩) (below_of_drew ((below_drewN ((Below.refl w.heap.size wr).alloc hz _) 1).trans hb3)) ?_
        rotate_left
        · intro wS hSw
          go_simp
          try with_reducible rfl
        try simp only [List.getElem_toArray, List.getElem_cons_zero, List.getElem_cons_succ, Act.put, List.setIfInBounds_toArray, List.set_cons_zero, List.set_cons_succ]
        refine wpAnyH_done (by kernel_rfl) ?_ _
        go_wp2
        go_roundw
        case rel => exact ⟨q + 1, A3, c3, by go_num, hlt1, hlt2, rfl, (show World.ownsRow _ _ _ _ _ _ _ by rw [HNX.out, List.map_append]; exact ho3), (below_drewN (HB1.out.alloc hz _) 1).trans hb3⟩
        case measure => simp [intOf]; omega
      · have HT : Hid ((addB a b).take q = addB a b) := (show _ = _ from List.take_of_length_le (by rw [HLL.out]; omega))
        have HLQ : Hid ((addB a b).length = q) := (show _ = _ by rw [HLL.out]; omega)
        rw [HT.out] at HO
        go_wp2
        go_ret
        exact ⟨A, q, c, rfl, HLQ.out, HO.out, HB1.out⟩
    · have HT : Hid ((addB a b).take q = addB a b) := (show _ = _ from List.take_of_length_le (by rw [HLL.out]; omega))
      have HLQ : Hid ((addB a b).length = q) := (show _ = _ by rw [HLL.out]; omega)
      rw [HT.out] at HO
      go_wp2
      go_ret
      exact ⟨A, q, c, rfl, HLQ.out, HO.out, HB1.out⟩
set_option maxHeartbeats 800000 in
theorem refSpread7No (k m j : Int) (hj : ¬ (0 ≤ j ∧ j < k)) (v : Value) (w : World) : Calls Try.prog 13 #[.int .i64 k, .int .i64 m, .int .i64 j, v] w fun e w' => e = .returned (.tuple #[.slice none 0 0, .int .i64 2]) ∧ w' = w := by
  by_cases h0 : j < 0
  · go_enter Try.func13, Try.ntmps13
    go_wp2
    first | go_ret2 | go_ret
    exact ⟨rfl, rfl⟩
  · have h1 : k ≤ j := by omega
    go_enter Try.func13, Try.ntmps13
    go_wp2
    first | go_ret2 | go_ret
    exact ⟨rfl, rfl⟩
set_option maxHeartbeats 1600000 in
theorem refSpread7 (k m j : Nat) (hj : j < k) (hs : k + m ≤ 255) (B : Nat) (Ac : Option Addr) (nc cc : Nat) (ch : List UInt8) (w : World) (hr : Rd w B Ac (ch.map bv)) (hn : ch.length = nc) (hB : B ≤ w.heap.size) (hl : nc ≤ 1000000000) :
    Calls Try.prog 13 #[.int .i64 (k : Int), .int .i64 (m : Int), .int .i64 (j : Int), .slice Ac nc cc] w (NewR (Dlt.spread k j ch (k + m)) 0 w) := by
  have HR := Lib.hid hr
  have HCL := Lib.hid hn
  have hjk : ¬ (k : Int) ≤ (j : Int) := by omega
  clear hr hn
  go_enter Try.func13, Try.ntmps13
  go_wp2
  go_loopw [10, 11] (fun l i wr => ∃ (p : Nat) (A' : Option Addr) (c' : Nat) (M : List RowB), i = .int .i64 p ∧ p ≤ k + m ∧ l = .slice A' p c' ∧ Hid (MadeI w (Dlt.spread k j ch p) A' c' M wr)) (fun _ i _ => k + m - (intOf i).toNat)
  case atStart => exact ⟨0, none, 0, [], rfl, Nat.zero_le _, rfl, MadeI.nil w w 0 (Below.refl _ _)⟩
  case round =>
    obtain ⟨p, A', c', M, rfl, hp, rfl, HI⟩ := hrel
    have HML := Lib.hid HI.out.len
    rw [Dlt.spread_length] at HML
    have hz := HI.out.below.size
    by_cases hlt : p < k + m
    · have hlt' : (p : Int) < (k : Int) + (m : Int) := by omega
      have HFC := Lib.hid (refFactor5 k p j (by omega) (by omega) (by omega) wr)
      have hf8 := Cod.fac_lt k p j
      have HSC := Lib.hid (refScale3 (Cod.fac k p j) hf8 Ac cc ch wr B (HR.out.below (HI.out.below.mono hB)) HCL.out (Nat.le_trans hB hz) hl)
      have HPU := Lib.hid (fun A5 n5 c5 w5 hb ho A6 c6 w6 ho6 hg6 hb6 => HI.out.push (w2 := w5) (w3 := w6) (A3 := A6) (c3 := c6) (x := scB (Cod.fac k p j) ch) (r := ⟨A5, n5, c5, scB (Cod.fac k p j) ch⟩) rfl hb ho ho6 hg6 hb6)
      rw [Dlt.spread_length, ← Dlt.spread_next] at HPU
      have HOO := Lib.hid HI.out.own
      rw [Dlt.spread_length] at HOO
      clear HI hf8
      go_wp2_with fail
      refine HFC.out.mono ?_
      rintro e w1 ⟨rfl, rfl⟩
      go_wp2_with fail
      refine HSC.out.mono ?_
      rintro e w5 ⟨A5, n5, c5, rfl, hn5, ho5, hb5⟩
      have HB5 := Lib.hid hb5
      have HO5 := Lib.hid ho5
      have hz5 : w.heap.size ≤ w5.heap.size := Nat.le_trans hz hb5.size
      clear ho5 hb5 HFC HSC
      go_wp2_with (at_builtin; refine appR _ rfl (.tmp 26) (.tmp 33) rfl w.heap.size A' p c' (M.map RowB.v) rfl ((own_via HOO.out HB5.out).alloc _) _ (some ⟨w5.heap.size, 0, none⟩) 1 1 [.slice A5 n5 c5] rfl rfl (Rd.new w5 _ _ _ rfl) (one_rows (L := [⟨A5, n5, c5, []⟩])) (by omega) (by simp; omega) ?_; intro A6 c6 w6 ho6 hg6 hb6)
      go_roundw
      case rel => exact ⟨p + 1, A6, c6, _, by go_num, hlt, rfl, HPU.out A5 n5 c5 w5 HB5.out HO5.out A6 c6 w6 ho6 hg6 hb6⟩
      case measure => simp [intOf]; omega
    · obtain rfl : p = k + m := by omega
      have hlt' : ¬ (((k + m : Nat) : Int) < (k : Int) + (m : Int)) := by omega
      have hI := HI.out
      have ho := hI.own
      rw [Dlt.spread_length] at ho
      go_wp2
      first | go_ret2 | go_ret
      exact ⟨A', _, c', M, rfl, hI.bs, HML.out, ho, hI.rows, hI.below⟩
/-- Parity behind a change. -/
def Dlt.upd (k m j : Nat) (old now : List UInt8) (P : List (List UInt8)) : List (List UInt8) := Dlt.adds P ((Dlt.spread k j (addB old now) (k + m)).drop k) m
theorem bss_drop (L : List RowB) (k : Nat) : bss (L.drop k) = (bss L).drop k := by
  unfold bss
  rw [List.map_drop]
set_option maxHeartbeats 1600000 in
theorem dlUpdate {w : World} {g gf k m c : Nat} {A : Option Addr} (h : Cdr w g gf k m A c) (j : Nat) (hj : j < k) (B : Nat) (Ao An : Option Addr) (no co cn : Nat) (old now : List UInt8) (ho : Rd w B Ao (old.map bv)) (hn : Rd w B An (now.map bv)) (hol : old.length = no) (hnl : now.length = no) (hB : B ≤ w.heap.size) (hl : no ≤ 1000000000)
    (L : List RowB) (Ap : Option Addr) (cp : Nat) (hp : Rd w B Ap (L.map RowB.v)) (hP : RowsAt w B L) (hpl : L.length = m) (hpw : ∀ r ∈ L, r.n = no) :
    Calls Try.prog 14 #[.pointer (some ⟨g, 0, none⟩), .int .i64 (j : Int), .slice Ao no co, .slice An no cn, .slice Ap m cp] w (NewR (Dlt.upd k m j old now (bss L)) 0 w) := by
  have hk := h.hk
  have hs := h.hs
  have HN := Lib.hid (dlNone h)
  have HD := Lib.hid (dlIsData (h.drewN 1) (j : Int))
  rw [decide_eq_true (by omega)] at HD
  have HM := Lib.hid (cdM (h.drewN 1))
  have hwd : wdB (lns L) m no = true := by
    unfold wdB lns
    rw [Bool.and_eq_true, decide_eq_true_eq, List.all_eq_true, List.length_map]
    refine ⟨fun x hx => ?_, hpl⟩
    obtain ⟨r, hr, rfl⟩ := List.mem_map.1 hx
    simpa using hpw r hr
  have HWD := Lib.hid (dlWide L B Ap m cp m no (w.drewN 1) (hp.drewN 1) hpl (by unfold maxLen; omega) (by omega) (by unfold maxLen; omega) (fun r hr => by rw [hpw r hr]; unfold maxLen; omega))
  rw [hwd] at HWD
  have HPL := Lib.hid (dlPlus Ao An no co no cn old now B (w.drewN 1) (ho.drewN 1) (hn.drewN 1) hol hnl (Nat.le_refl _) hB hl)
  have HADL : Hid ((addB old now).length = no) := (show _ = _ by rw [addB_length, hol, hnl, Nat.min_self])
  have HC : Hid (Cdr (w.drewN 1) g gf k m A c) := h.drewN 1
  have HP := Lib.hid (hp.drewN 1)
  have HPP : Hid (RowsAt (w.drewN 1) B L) := fun r hr => (hP r hr).drewN 1
  have HLL := Lib.hid hpl
  have HPW := Lib.hid hpw
  have HB0 : Hid (Below w.heap.size w (w.drewN 1)) := below_drewN (Below.refl _ _) 1
  clear h ho hn hol hnl hp hP hpl hpw hwd
  go_enter Try.func14, Try.ntmps14
  go_wp2_with fail
  refine HN.out.mono ?_
  rintro e w1 ⟨rfl, rfl⟩
  go_wp2_with fail
  refine HD.out.mono ?_
  rintro e w1 ⟨rfl, rfl⟩
  go_wp2_with fail
  refine HM.out.mono ?_
  rintro e w1 ⟨rfl, rfl⟩
  go_wp2_with fail
  refine HWD.out.mono ?_
  rintro e w1 ⟨rfl, rfl⟩
  go_wp2_with fail
  refine HPL.out.mono ?_
  rintro e w2 ⟨A2, n2, c2, rfl, hn2, ho2, hb2⟩
  rw [HADL.out] at hn2
  subst hn2
  have HSP := Lib.hid (dlSpread (HC.out.below hb2) j hj w2.heap.size A2 no c2 (addB old now) (Rd.of_own ho2) HADL.out (Nat.le_refl _) hl)
  have HB2 := Lib.hid hb2
  clear ho2 hb2 HN HD HM HWD HPL
  go_wp2_with fail
  refine HSP.out.mono ?_
  rintro e w3 ⟨A3, n3, c3, S, rfl, hS, hn3, ho3, hR3, hb3⟩
  obtain rfl : n3 = k + m := by
    have := congrArg List.length hS
    rw [List.length_map, Dlt.spread_length] at this
    omega
  have HB3 := Lib.hid (HB2.out.via hb3)
  have HKK := Lib.hid (cdK (HC.out.below HB3.out))
  have HS : Hid (bss S = Dlt.spread k j (addB old now) (k + m)) := hS
  have HN3 := Lib.hid hn3
  have hcp := own_cap ho3
  have HRS := Lib.hid (Rd.of_own ho3)
  have HAS := Lib.hid hR3.at
  clear hS hn3 ho3 hR3 hb3 HB2 HSP
  go_wp2_with fail
  refine HKK.out.mono ?_
  rintro e w4 ⟨rfl, rfl⟩
  have hsl := fun V : World => run_cut_from (P := Try.prog) 23 22 Try.underlying23 sizeRow A3 (k + m) c3 k .i64 (by omega) V
  rw [show k + m - k = m from by omega] at hsl
  have HSW : Hid (∀ r ∈ S.drop k, r.n = no) := fun r hr => by
    have hr' := List.mem_of_mem_drop hr
    rw [← (HAS.out r hr').len]
    have : r.bs ∈ bss S := List.mem_map.2 ⟨r, hr', rfl⟩
    rw [HS.out] at this
    simp only [Dlt.spread, List.mem_map] at this
    obtain ⟨i, _, he⟩ := this
    rw [← he, scB_length, HADL.out]
  have HEA := Lib.hid (dlEach L (S.drop k) w4.heap.size Ap (cut A3 c3 k) m cp m (c3 - k) no w4 ((HP.out.below (HB3.out.mono hB)).more (Nat.le_trans hB HB3.out.size)) (fun r hr => ((HPP.out r hr).below (HB3.out.mono hB)).more (Nat.le_trans hB HB3.out.size)) (by rw [List.map_drop]; exact HRS.out.cut (by rw [List.length_map, HN3.out]; omega) (by rw [List.length_map, HN3.out]; exact hcp.1)) (fun r hr => HAS.out r (List.mem_of_mem_drop hr)) (Nat.le_refl _) HLL.out (by rw [List.length_drop, HN3.out]; omega) (Nat.le_refl _) (by omega) HPW.out HSW.out hl)
  have HEQ : Hid (Dlt.adds (bss L) (bss (S.drop k)) m = Dlt.upd k m j old now (bss L)) := (show _ = _ by rw [bss_drop, HS.out]; rfl)
  rw [HEQ.out] at HEA
  clear HRS HAS HP HPP HC hcp HKK
  go_wp2_with fail
  refine HEA.out.mono ?_
  rintro e w5 ⟨A5, n5, c5, L5, rfl, hL5, hn5, ho5, hR5, hb5⟩
  have HB5 := Lib.hid (HB0.out.via (HB3.out.via hb5))
  have HZ := Lib.hid HB3.out.size
  have HL5 := Lib.hid hL5
  have HN5 := Lib.hid hn5
  have HO5 := Lib.hid ho5
  have HR5 := Lib.hid hR5
  clear hL5 hn5 ho5 hR5 hb5 HEA
  go_wp2
  first | go_ret2 | go_ret
  exact ⟨A5, n5, c5, L5, rfl, HL5.out, HN5.out, own_lower1 HO5.out HZ.out, HR5.out.lower HZ.out, HB5.out⟩
set_option maxHeartbeats 1600000 in
theorem dlUpdateNo {w : World} {g gf k m c : Nat} {A : Option Addr} (h : Cdr w g gf k m A c) (j : Int) (Ao An : Option Addr) (no co nn cn : Nat) (hno : no ≤ 1000000) (hnn : nn ≤ 1000000)
    (L : List RowB) (B : Nat) (Ap : Option Addr) (np cp : Nat) (hp : Rd w B Ap (L.map RowB.v)) (hpl : L.length = np) (hpm : np ≤ 1000000) (hpw : ∀ r ∈ L, r.n ≤ maxLen) (hbad : ¬ ((0 ≤ j ∧ j < (k : Int)) ∧ no = nn ∧ wdB (lns L) m no = true)) :
    Calls Try.prog 14 #[.pointer (some ⟨g, 0, none⟩), .int .i64 j, .slice Ao no co, .slice An nn cn, .slice Ap np cp] w fun e w' => e = .returned (.tuple #[.slice none 0 0, .int .i64 2]) ∧ Below w.heap.size w w' := by
  have hs := h.hs
  have HN := Lib.hid (dlNone h)
  have HD := Lib.hid (dlIsData (h.drewN 1) j)
  have HM := Lib.hid (cdM (h.drewN 1))
  have HWD := Lib.hid (dlWide L B Ap np cp m no (w.drewN 1) (hp.drewN 1) hpl (by unfold maxLen; omega) (by omega) (by unfold maxLen; omega) hpw)
  have HB0 : Hid (Below w.heap.size w (w.drewN 1)) := below_drewN (Below.refl _ _) 1
  by_cases h1 : 0 ≤ j ∧ j < (k : Int)
  · rw [decide_eq_true h1] at HD
    by_cases h2 : no = nn
    · subst h2
      have hwd : wdB (lns L) m no = false := by
        cases hb : wdB (lns L) m no with
        | false => rfl
        | true => exact absurd ⟨h1, rfl, hb⟩ hbad
      rw [hwd] at HWD
      clear h hp hpl hpw hbad hwd
      go_enter Try.func14, Try.ntmps14
      go_wp2_with fail
      refine HN.out.mono ?_
      rintro e w1 ⟨rfl, rfl⟩
      go_wp2_with fail
      refine HD.out.mono ?_
      rintro e w1 ⟨rfl, rfl⟩
      go_wp2_with fail
      refine HM.out.mono ?_
      rintro e w1 ⟨rfl, rfl⟩
      go_wp2_with fail
      refine HWD.out.mono ?_
      rintro e w1 ⟨rfl, rfl⟩
      go_wp2
      first | go_ret2 | go_ret
      exact ⟨rfl, HB0.out⟩
    · have hne : ((no : Int) != (nn : Int)) = true := by rw [bne_iff_ne]; omega
      clear h hp hpl hpw hbad HWD HM
      go_enter Try.func14, Try.ntmps14
      go_wp2_with fail
      refine HN.out.mono ?_
      rintro e w1 ⟨rfl, rfl⟩
      go_wp2_with fail
      refine HD.out.mono ?_
      rintro e w1 ⟨rfl, rfl⟩
      go_wp2
      first | go_ret2 | go_ret
      exact ⟨rfl, HB0.out⟩
  · rw [decide_eq_false h1] at HD
    clear h hp hpl hpw hbad HWD HM h1
    go_enter Try.func14, Try.ntmps14
    go_wp2_with fail
    refine HN.out.mono ?_
    rintro e w1 ⟨rfl, rfl⟩
    go_wp2_with fail
    refine HD.out.mono ?_
    rintro e w1 ⟨rfl, rfl⟩
    go_wp2
    first | go_ret2 | go_ret
    exact ⟨rfl, HB0.out⟩
end Cib
