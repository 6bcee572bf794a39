/- A shard as the sum of others; a plan of it. -/
import Derived.Test.YthlpcghoijgeiaaDecI
set_option linter.unusedVariables false
set_option linter.unusedSimpArgs false
set_option maxRecDepth 40000
namespace Cib
open Go Go.RowKit Go.Proofs
/-- The rows that are in use. -/
def rowsU (L : List (List UInt8)) (us : List Nat) : List (List UInt8) := us.map fun u => L.getD u []
theorem rowsU_get {L : List (List UInt8)} {us : List Nat} {j : Nat} (h : j < us.length) : (rowsU L us).getD j [] = L.getD (us.getD j 0) [] := by simp [rowsU, List.getD, h]
set_option maxHeartbeats 2000000 in
theorem decMade {w : World} {g gf k m c : Nat} {A : Option Addr} (h : Cdr w g gf k m A c) (us : List Nat) (hu : Use k m us) (Au : Option Addr) (cu B : Nat) (hru : Rd w B Au (us.map iv)) (L : List RowB) (Al : Option Addr) (cl : Nat) (hrl : Rd w B Al (L.map RowB.v)) (hR : RowsAt w B L) (hl : L.length = k + m)
    (W : Nat) (hW : ∀ j, j < k → ((bss L).getD (us.getD j 0) []).length = W) (hWm : W ≤ 1000000000) (Aw : Option Addr) (cw : Nat) (f : List UInt8) (hf : Rd w B Aw (f.map bv)) (hfl : f.length = k) (hB : B ≤ w.heap.size) :
    Calls Try.prog 68 #[.pointer (some ⟨g, 0, none⟩), .slice Al (k + m) cl, .slice Au k cu, .slice Aw k cw] w (NewB (Cod.sumTo f (rowsU (bss L) us) W k) w) := by
  have hk1 := h.hk
  have hs := h.hs
  have HC := Lib.hid h
  have HU := Lib.hid hu
  have HRU := Lib.hid hru
  have HRL := Lib.hid hrl
  have HRR := Lib.hid hR
  have HL := Lib.hid hl
  have HW := Lib.hid hW
  have HF := Lib.hid hf
  have HFL := Lib.hid hfl
  have hmk := makeB W (by omega)
  have HROW : Hid (∀ q (hq : q < k), ∃ (u : Nat) (r : RowB), us.getD q 0 = u ∧ u < k + m ∧ (∃ ad, Au = some ad ∧ ∀ w', Below w.heap.size w w' → w'.cell? (ad.add q) = some (.int .i64 (u : Int))) ∧ (∃ ad, Al = some ad ∧ ∀ w', Below w.heap.size w w' → w'.cell? (ad.add u) = some (.slice r.A W r.c)) ∧ (∀ w', Below w.heap.size w w' → Rd w' B r.A (r.bs.map bv)) ∧ r.bs.length = W ∧ W ≤ r.c ∧ (rowsU (bss L) us).getD q [] = r.bs) := Lib.hid (by
    intro q hq
    have hql : q < us.length := by rw [HU.out.len]; exact hq
    have hul : us[q] < L.length := by rw [HL.out]; exact HU.out.lt _ (List.getElem_mem hql)
    have hug : us.getD q 0 = us[q] := by simp [List.getD, hql]
    obtain ⟨ad1, e1, hb1, hc1⟩ := (show Rd w B Au (us.map iv) from HRU.out) (by intro e; rw [List.map_eq_nil_iff] at e; rw [e] at hql; cases hql)
    have hc1' := hc1 q (by simpa using hql)
    rw [List.getElem_map] at hc1'
    obtain ⟨ad2, e2, hb2, hc2⟩ := HRL.out.row hul
    have hr := HRR.out.get hul
    have hbl : (bss L).getD us[q] [] = L[us[q]].bs := bss_get hul
    have hwl := HW.out q hq
    rw [hug, hbl] at hwl
    have hn : L[us[q]].n = W := by rw [← hr.len]; exact hwl
    refine ⟨us[q], L[us[q]], hug, HU.out.lt _ (List.getElem_mem hql), ⟨ad1, e1, fun w' h' => (h'.cell (p := ad1.add q) (by rw [addr_add_block]; omega)).trans hc1'⟩, ⟨ad2, e2, fun w' h' => ?_⟩, fun w' h' => hr.rd.below (h'.mono hB), hwl, by rw [← hn]; exact hr.cap, ?_⟩
    · rw [← hn]
      exact (h'.cell (p := ad2.add us[q]) (by rw [addr_add_block]; omega)).trans hc2
    · rw [rowsU_get hql, hug, hbl])
  clear h hu hru hrl hR hl hW hf hfl
  obtain ⟨u0, r0, _, hu0, ⟨ad1, rfl, hc1⟩, ⟨ad2, rfl, hc2⟩, _, _, _, _⟩ := HROW.out 0 hk1
  have hc1 := hc1 w (Below.refl _ _)
  have hc2 := hc2 w (Below.refl _ _)
  rw [addr_add_zero] at hc1
  obtain ⟨rA0, rn0, rc0, rb0⟩ := r0
  simp only at hc2
  go_enter Try.func68, Try.ntmps68
  go_wp2
  go_loopw [9, 10, 11, 22] (fun l _ _ i wr => ∃ (q : Nat) (A' : Option Addr) (c' : Nat), i = .int .i64 q ∧ q ≤ k ∧ l = .slice A' W c' ∧ Hid (wr.ownsRow w.heap.size 5 1 (.slice A' W c') W ((Cod.sumTo f (rowsU (bss L) us) W q).map bv)) ∧ Hid (Below w.heap.size w wr)) (fun _ _ _ i _ => k - (intOf i).toNat)
  case atStart =>
    refine ⟨0, some ⟨w.heap.size, 0, none⟩, W, rfl, Nat.zero_le _, rfl, ?_, (Below.refl _ _).alloc (Nat.le_refl _) _⟩
    show World.ownsRow _ _ _ _ _ _ _
    rw [Cod.sumTo, List.map_replicate]
    exact own_made w w.heap.size 5 (.int .u8 0) W W (Nat.le_refl _) (Nat.le_refl _) (by unfold maxLen; omega)
  case round =>
    clear hc1 hc2
    obtain ⟨q, A', c', rfl, hq, rfl, HO, HBr⟩ := hrel
    by_cases hlt : q < k
    · obtain ⟨u, ⟨rA, rn, rc, bs⟩, _, huk, ⟨ad3, e3, hcu⟩, ⟨ad4, e4, hcl⟩, hrd, hlen, hcap, hsb⟩ := HROW.out q hlt
      injection e3 with e3
      injection e4 with e4
      subst e3 e4
      simp only at hcl hrd hlen hcap hsb
      have hC := HC.out.below HBr.out
      have hz := HBr.out.size
      have HBD := Lib.hid (below_drewN HBr.out 1)
      have hcu := hcu _ HBr.out
      have HCL := Lib.hid hcl
      have hrd := hrd _ HBD.out
      have hql : q < f.length := by rw [HFL.out]; exact hlt
      obtain ⟨adf, hadf, hbf, hcf⟩ := (show Rd w B Aw (f.map bv) from HF.out) (by intro e; rw [List.map_eq_nil_iff] at e; rw [e] at hql; cases hql)
      have hcf0 := hcf q (by simpa using hql)
      rw [List.getElem_map] at hcf0
      clear hcf
      have hfg : f.getD q 0 = f[q] := by simp [List.getD, hql]
      subst hadf
      obtain ⟨x, hx⟩ : ∃ x, Hid ((f.getD q 0).toNat = x) := ⟨_, rfl⟩
      have HCF : Hid (∀ w', Below w.heap.size w w' → w'.cell? (adf.add q) = some (.int .u8 (x : Int))) := Lib.hid fun w' h' => by
        rw [← hx.out, hfg]
        exact (h'.cell (p := adf.add q) (by rw [addr_add_block]; omega)).trans hcf0
      have hx8 : x < 256 := by rw [← hx.out]; exact (f.getD q 0).toNat_lt
      have HFI := Lib.hid (cdField (w := wr.drew) (hC.drewN 1))
      have huI : (u : Int) < (k : Int) + (m : Int) := by omega
      have HFO := Lib.hid (fldFoldF gf x hx8 rA rc bs A' c' (Cod.sumTo f (rowsU (bss L) us) W q) wr.drew hC.full B wr.heap.size hrd (Rd.of_own HO.out) hlen (Cod.sumTo_length _ _ _ _) (Nat.le_trans hB hz) (Nat.le_refl _) hWm hWm hcap)
      have HINI : Hid (wr.drew.cell? (adf.add q) = some (.int .u8 (x : Int)) ∧ wr.drew.cell? (ad2.add u) = some (.slice rA W rc)) := Lib.hid ⟨HCF.out _ HBD.out, HCL.out _ HBD.out⟩
      have HN2 : Hid (foB x bs (Cod.sumTo f (rowsU (bss L) us) W q) = Cod.sumTo f (rowsU (bss L) us) W (q + 1)) := by
        show _ = _
        rw [Cod.sumTo, hsb, hx.out]
      rw [HN2.out] at HFO
      clear hC HO hrd hlen hcap hsb hx HN2 hfg hcf0 hql hbf hcl
      go_wp2
      refine wp_region_held_drew (S := (fun wQq => wQq.cell? (adf.add q) = some (.int .u8 (x : Int)) ∧ wQq.cell? (ad2.add u) = some (.slice rA W rc))) (by kernel_rfl) (HINI.out) (fun _ => ?_)
      refine wpAnyH_take (i := 0) (v := ?_) rfl (by kernel_rfl) (by kernel_rfl) (by kernel_rfl) (fun _ _ _ h => h) (Or.inl ⟨by rfl, ?_⟩) (HINI.out) ?_
      rotate_left
      · intro wS hSw
        go_simp
        try with_reducible rfl
      try simp only [List.getElem_toArray, List.getElem_cons_zero, List.getElem_cons_succ, Act.put, List.setIfInBounds_toArray, List.set_cons_zero, List.set_cons_succ]
      refine wpAnyH_take (i := 2) (v := ?_) rfl (by kernel_rfl) (by kernel_rfl) (by kernel_rfl) (fun _ _ _ h => h) (Or.inl ⟨by rfl, ?_⟩) (HINI.out) ?_
      rotate_left
      · intro wS hSw
        go_simp
        try with_reducible rfl
      try simp only [List.getElem_toArray, List.getElem_cons_zero, List.getElem_cons_succ, Act.put, List.setIfInBounds_toArray, List.set_cons_zero, List.set_cons_succ]
      refine wpAnyH_take (i := 3) (v := ?_) rfl (by kernel_rfl) (by kernel_rfl) (by kernel_rfl) (fun _ _ _ h => h) (Or.inl ⟨by rfl, ?_⟩) (HINI.out) ?_
      rotate_left
      · intro wS hSw
        go_simp
        try with_reducible rfl
      try simp only [List.getElem_toArray, List.getElem_cons_zero, List.getElem_cons_succ, Act.put, List.setIfInBounds_toArray, List.set_cons_zero, List.set_cons_succ]
      refine wpAnyH_take (i := 4) (v := ?_) rfl (by kernel_rfl) (by kernel_rfl) (by kernel_rfl) (fun _ _ _ h => h) (Or.inl ⟨by rfl, ?_⟩) (HINI.out) ?_
      rotate_left
      · intro wS hSw
        go_simp
        try with_reducible rfl
      try simp only [List.getElem_toArray, List.getElem_cons_zero, List.getElem_cons_succ, Act.put, List.setIfInBounds_toArray, List.set_cons_zero, List.set_cons_succ]
      refine wpAnyH_take (i := 6) (v := ?_) rfl (by kernel_rfl) (by kernel_rfl) (by kernel_rfl) (fun _ _ _ h => h) (Or.inl ⟨by rfl, ?_⟩) (HINI.out) ?_
      rotate_left
      · intro wS hSw
        go_simp
        try with_reducible rfl
      try simp only [List.getElem_toArray, List.getElem_cons_zero, List.getElem_cons_succ, Act.put, List.setIfInBounds_toArray, List.set_cons_zero, List.set_cons_succ]
      refine wpAnyH_take (i := 7) (v := ?_) rfl (by kernel_rfl) (by kernel_rfl) (by kernel_rfl) (fun _ _ _ h => h) (Or.inl ⟨by rfl, ?_⟩) (HINI.out) ?_
      rotate_left
      · intro wS hSw
        go_simp
        try with_reducible rfl
      try simp only [List.getElem_toArray, List.getElem_cons_zero, List.getElem_cons_succ, Act.put, List.setIfInBounds_toArray, List.set_cons_zero, List.set_cons_succ]
      refine wpAnyH_take (i := 8) (v := ?_) rfl (by kernel_rfl) (by kernel_rfl) (by kernel_rfl) (fun _ _ _ h => h) (Or.inl ⟨by rfl, ?_⟩) (HINI.out) ?_
      rotate_left
      · intro wS hSw
        go_simp
        try with_reducible rfl
      try simp only [List.getElem_toArray, List.getElem_cons_zero, List.getElem_cons_succ, Act.put, List.setIfInBounds_toArray, List.set_cons_zero, List.set_cons_succ]
      refine wpAnyH_take (i := 10) (v := ?_) rfl (by kernel_rfl) (by kernel_rfl) (by kernel_rfl) (fun _ _ _ h => h) (Or.inl ⟨by rfl, ?_⟩) (HINI.out) ?_
      rotate_left
      · intro wS hSw
        go_simp
        try with_reducible rfl
      try simp only [List.getElem_toArray, List.getElem_cons_zero, List.getElem_cons_succ, Act.put, List.setIfInBounds_toArray, List.set_cons_zero, List.set_cons_succ]
      refine wpAnyH_take (i := 5) (v := ?_) rfl (by kernel_rfl) (by kernel_rfl) (by kernel_rfl) (fun _ _ _ h => h) (Or.inl ⟨by rfl, ?_⟩) (HINI.out) ?_
      rotate_left
      · intro wS hSw
        have hcv := hSw.1
        go_simp
        try with_reducible rfl
      try simp only [List.getElem_toArray, List.getElem_cons_zero, List.getElem_cons_succ, Act.put, List.setIfInBounds_toArray, List.set_cons_zero, List.set_cons_succ]
      refine wpAnyH_take (i := 9) (v := ?_) rfl (by kernel_rfl) (by kernel_rfl) (by kernel_rfl) (fun _ _ _ h => h) (Or.inl ⟨by rfl, ?_⟩) (HINI.out) ?_
      rotate_left
      · intro wS hSw
        have hcv := hSw.2
        go_simp
        try with_reducible rfl
      try simp only [List.getElem_toArray, List.getElem_cons_zero, List.getElem_cons_succ, Act.put, List.setIfInBounds_toArray, List.set_cons_zero, List.set_cons_succ]
      refine wpAnyH_ready (rs := [1]) (by kernel_rfl) (by simp) ?_
      refine AllReadyH.cons rfl (fun K hK => ?_) AllReadyH.nil
      go_simp
      refine HFI.out.mono ?_
      rintro e w' ⟨rfl, rfl⟩
      refine hK.out _ _ HINI.out (fun _ => ?_)
      clear hK K
      try simp only [List.getElem_toArray, List.getElem_cons_zero, List.getElem_cons_succ, Act.put, List.setIfInBounds_toArray, List.set_cons_zero, List.set_cons_succ]
      refine wpAnyH_ready (rs := [11]) (by kernel_rfl) (by simp) ?_
      refine AllReadyH.cons rfl (fun K hK => ?_) AllReadyH.nil
      go_simp
      refine HFO.out.mono ?_
      rintro e w' ⟨A1, n1, c1, rfl, hn1, ho1, hb1⟩
      have HIN2 : Hid (w'.cell? (adf.add q) = some (.int .u8 (x : Int)) ∧ w'.cell? (ad2.add u) = some (.slice rA W rc)) := Lib.hid ⟨HCF.out _ (HBD.out.via hb1), HCL.out _ (HBD.out.via hb1)⟩
      refine hK.out _ _ HIN2.out (fun _ => ?_)
      clear hK K
      try simp only [List.getElem_toArray, List.getElem_cons_zero, List.getElem_cons_succ, Act.put, List.setIfInBounds_toArray, List.set_cons_zero, List.set_cons_succ]
      refine wpAnyH_take (i := 12) (v := ?_) rfl (by kernel_rfl) (by kernel_rfl) (by kernel_rfl) (fun _ _ _ h => h) (Or.inl ⟨by rfl, ?_⟩) HIN2.out ?_
      rotate_left
      · intro wS hSw
        go_simp
        try with_reducible rfl
      try simp only [List.getElem_toArray, List.getElem_cons_zero, List.getElem_cons_succ, Act.put, List.setIfInBounds_toArray, List.set_cons_zero, List.set_cons_succ]
      refine wpAnyH_done (by kernel_rfl) ?_ _
      go_wp2
      obtain rfl : n1 = W := by rw [← hn1, Cod.sumTo_length]
      go_roundw
      case rel => exact ⟨q + 1, A1, c1, by go_num, hlt, rfl, own_lowerB ho1 hz, HBD.out.trans (hb1.mono hz)⟩
      case measure => simp [intOf]; omega
    · obtain rfl : q = k := by omega
      go_wp2
      go_ret
      exact ⟨A', W, c', rfl, Cod.sumTo_length _ _ _ _, HO.out, HBr.out⟩
set_option maxHeartbeats 2000000 in
theorem decPlan {w : World} {g gf k m c : Nat} {A : Option Addr} (h : Cdr w g gf k m A c) (us : List Nat) (hu : Use k m us) (Au : Option Addr) (cu B : Nat) (hr : Rd w B Au (us.map iv)) (hB : B ≤ w.heap.size) (i : Nat) (hi : i < k + m) :
    Calls Try.prog 67 #[.pointer (some ⟨g, 0, none⟩), .slice Au k cu, .int .i64 (i : Int)] w fun e w' => ∃ X A' c', e = .returned (.tuple #[.slice A' k c', .int .i64 0]) ∧ Lin.Inv k (Lin.fl k (mtx k us)) (Lin.fl k X) ∧ w'.ownsRow w.heap.size 5 1 (.slice A' k c') k ((Lin.mulL 1 k k (Cod.facRow k i) X).map bv) ∧ Below w.heap.size w w' := by
  have hk1 := h.hk
  have hs := h.hs
  have HC := Lib.hid h
  have HI := Lib.hid (decInverse h us hu Au cu B hr hB)
  clear h hu hr
  unfold mv at HI
  go_enter Try.func67, Try.ntmps67
  go_wp2_with fail
  refine HI.out.mono ?_
  rintro e w1 ⟨X, A1, c1, rfl, hX, hXl, ho1, hb1⟩
  have hal : Below w1.heap.size w1 (w1.alloc (.cells #[.int .i64 (k : Int), .int .i64 (k : Int), .slice A1 (k * k) c1] 45)) := (Below.refl _ _).alloc (Nat.le_refl _) _
  have HBX := Lib.hid (Blk.new w1 45 #[.int .i64 (k : Int), .int .i64 (k : Int), .slice A1 (k * k) c1])
  have HO2 := Lib.hid (own_via ho1 hal)
  have HB2 := Lib.hid (hb1.via hal)
  have HRO := Lib.hid (cdRow (HC.out.below HB2.out) i hi)
  have HX := Lib.hid hX
  have HXL := Lib.hid hXl
  clear hX hXl ho1 hb1 hal HI
  go_wp2_with fail
  generalize w1.alloc _ = w2 at *
  generalize w1.heap.size = g8 at *
  refine HRO.out.mono ?_
  rintro e w3 ⟨A4, n4, c4, rfl, hn4, ho4, hb4⟩
  rw [Cod.facRow_length] at hn4
  subst hn4
  have HBX3 : Hid (Blk w3.drew g8 45 #[.int .i64 (k : Int), .int .i64 (k : Int), .slice A1 (k * k) c1]) := Lib.hid ((HBX.out.below hb4 HBX.out.lt).drewN 1)
  have HB3 := Lib.hid (HB2.out.via hb4)
  have HO3 := Lib.hid (own_via HO2.out hb4)
  have HO4 := Lib.hid ho4
  have HC3 := Lib.hid (HC.out.below HB3.out)
  have HFI := Lib.hid fun W (hW : Below w3.heap.size w3 W) => cdField (HC3.out.below hW)
  have HMU : Hid (∀ W, Below w3.heap.size w3 W → Calls Try.prog 76 #[.pointer (some ⟨gf, 0, none⟩), .agg #[.int .i64 1, .int .i64 (k : Int), .slice A4 k c4], .agg #[.int .i64 (k : Int), .int .i64 (k : Int), .slice A1 (k * k) c1]] W fun e W' => ∃ A5 c5, e = .returned (.tuple #[.agg #[.int .i64 1, .int .i64 (k : Int), .slice A5 k c5], .int .i64 0]) ∧ W'.ownsRow W.heap.size 5 1 (.slice A5 k c5) k ((Lin.mulL 1 k k (Cod.facRow k i) X).map bv) ∧ Below W.heap.size W W') := Lib.hid fun W hW => by
    have hCW := HC3.out.below hW
    have hne : ∀ {n' c' : Nat} {vs : List Value} {b0 : Nat} {A' : Option Addr}, 0 < n' → W.ownsRow b0 5 1 (.slice A' n' c') n' vs → ∀ ad, A' = some ad → ad.block ≠ gf := fun hn ho ad e => by
      subst e
      obtain ⟨g1, e1, _⟩ := own_at ho hn
      injection e1 with e1
      subst e1
      exact (own_ne ho hCW.full (by decide)).symm
    have hw4 := own_via HO4.out hW
    have hw1 := own_via HO3.out hW
    have hM := matMul gf 1 k k A4 A1 k c4 (k * k) c1 (Cod.facRow k i) X W hCW.full.fld (Rd.of_own hw4) (Rd.of_own hw1) (hne hk1 hw4) (hne (Nat.mul_pos hk1 hk1) hw1) (by rw [Cod.facRow_length, Nat.one_mul]) HXL.out (Nat.one_mul k).symm rfl (own_cap hw4).1 (own_cap hw1).1 ⟨Nat.le_refl _, by omega⟩ ⟨hk1, by omega⟩ ⟨hk1, by omega⟩
    refine hM.mono ?_
    rintro e W' ⟨A5, c5, rfl, hl5, ho5, hS5⟩
    rw [Nat.one_mul] at ho5 ⊢
    exact ⟨A5, c5, rfl, ho5, hS5.bel hCW.full⟩
  clear ho4 hb4 HBX HB2 HO2 HRO HC HXL HO4 HO3
  have HZ : Hid (Below w3.heap.size w3 w3.drew) := Lib.hid (below_drewN (Below.refl _ _) 1)
  go_wp2
  refine wp_region_held_drew (S := (fun wQq => Blk wQq g8 45 #[.int .i64 (k : Int), .int .i64 (k : Int), .slice A1 (k * k) c1])) (by kernel_rfl) (HBX3.out) (fun _ => ?_)
  refine wpAnyH_take (i := 0) (v := ?_) rfl (by kernel_rfl) (by kernel_rfl) (by kernel_rfl) (fun _ _ _ h => h) (Or.inl ⟨by rfl, ?_⟩) (HBX3.out) ?_
  rotate_left
  · intro wS hSw
    go_simp
    try with_reducible rfl
  try simp only [List.getElem_toArray, List.getElem_cons_zero, List.getElem_cons_succ, Act.put, List.setIfInBounds_toArray, List.set_cons_zero, List.set_cons_succ]
  refine wpAnyH_take (i := 2) (v := ?_) rfl (by kernel_rfl) (by kernel_rfl) (by kernel_rfl) (fun _ _ _ h => h) (Or.inl ⟨by rfl, ?_⟩) (HBX3.out) ?_
  rotate_left
  · intro wS hSw
    go_simp
    try with_reducible rfl
  try simp only [List.getElem_toArray, List.getElem_cons_zero, List.getElem_cons_succ, Act.put, List.setIfInBounds_toArray, List.set_cons_zero, List.set_cons_succ]
  refine wpAnyH_take (i := 3) (v := ?_) rfl (by kernel_rfl) (by kernel_rfl) (by kernel_rfl) (fun _ _ _ h => h) (Or.inl ⟨by rfl, ?_⟩) (HBX3.out) ?_
  rotate_left
  · intro wS hSw
    go_simp
    try with_reducible rfl
  try simp only [List.getElem_toArray, List.getElem_cons_zero, List.getElem_cons_succ, Act.put, List.setIfInBounds_toArray, List.set_cons_zero, List.set_cons_succ]
  refine wpAnyH_take (i := 4) (v := ?_) rfl (by kernel_rfl) (by kernel_rfl) (by kernel_rfl) (fun _ _ _ h => h) (Or.inl ⟨by rfl, ?_⟩) (HBX3.out) ?_
  rotate_left
  · intro wS hSw
    go_simp
    try with_reducible rfl
  try simp only [List.getElem_toArray, List.getElem_cons_zero, List.getElem_cons_succ, Act.put, List.setIfInBounds_toArray, List.set_cons_zero, List.set_cons_succ]
  refine wpAnyH_take (i := 5) (v := ?_) rfl (by kernel_rfl) (by kernel_rfl) (by kernel_rfl) (fun _ _ _ h => h) (Or.inl ⟨by rfl, ?_⟩) (HBX3.out) ?_
  rotate_left
  · intro wS hSw
    go_simp
    try with_reducible rfl
  try simp only [List.getElem_toArray, List.getElem_cons_zero, List.getElem_cons_succ, Act.put, List.setIfInBounds_toArray, List.set_cons_zero, List.set_cons_succ]
  refine wpAnyH_take (i := 6) (v := ?_) rfl (by kernel_rfl) (by kernel_rfl) (by kernel_rfl) (fun _ _ _ h => h) (Or.inl ⟨by rfl, ?_⟩) (HBX3.out) ?_
  rotate_left
  · intro wS hSw
    have hcv := True.intro
    obtain ⟨e0, e1, e2⟩ : _ ∧ _ ∧ _ := ⟨hSw.cell 0, hSw.cell 1, hSw.cell 2⟩
    simp only [List.getElem?_toArray, List.getElem?_cons_zero, List.getElem?_cons_succ] at e0 e1 e2
    go_simp
    try with_reducible rfl
  try simp only [List.getElem_toArray, List.getElem_cons_zero, List.getElem_cons_succ, Act.put, List.setIfInBounds_toArray, List.set_cons_zero, List.set_cons_succ]
  refine wpAnyH_ready (rs := [1, 11]) (by kernel_rfl) (by simp) ?_
  refine AllReadyH.cons rfl (fun K hK => ?_) (AllReadyH.cons rfl (fun K hK => ?_) AllReadyH.nil)
  · go_simp
    refine (HFI.out _ HZ.out).mono ?_
    rintro e w' ⟨rfl, rfl⟩
    refine hK.out _ _ HBX3.out (fun _ => ?_)
    clear hK K
    try simp only [List.getElem_toArray, List.getElem_cons_zero, List.getElem_cons_succ, Act.put, List.setIfInBounds_toArray, List.set_cons_zero, List.set_cons_succ]
    refine wpAnyH_ready (rs := [7, 11]) (by kernel_rfl) (by simp) ?_
    refine AllReadyH.cons rfl (fun K hK => ?_) (AllReadyH.cons rfl (fun K hK => ?_) AllReadyH.nil)
    · go_simp
      refine (HMU.out _ HZ.out).mono ?_
      rintro e w4 ⟨A5, c5, rfl, ho5, hb5⟩
      have HBX4 := Lib.hid (HBX3.out.below hb5 HBX3.out.lt)
      have HO5 := Lib.hid ho5
      have HB5 := Lib.hid (HZ.out.via hb5)
      clear ho5 hb5
      refine hK.out _ _ HBX4.out (fun _ => ?_)
      clear hK K
      try simp only [List.getElem_toArray, List.getElem_cons_zero, List.getElem_cons_succ, Act.put, List.setIfInBounds_toArray, List.set_cons_zero, List.set_cons_succ]
      refine wpAnyH_take (i := 8) (v := ?_) rfl (by kernel_rfl) (by kernel_rfl) (by kernel_rfl) (fun _ _ _ h => h) (Or.inl ⟨by rfl, ?_⟩) HBX4.out ?_
      rotate_left
      · intro wS hSw
        go_simp
        try with_reducible rfl
      try simp only [List.getElem_toArray, List.getElem_cons_zero, List.getElem_cons_succ, Act.put, List.setIfInBounds_toArray, List.set_cons_zero, List.set_cons_succ]
      refine wpAnyH_take (i := 9) (v := ?_) rfl (by kernel_rfl) (by kernel_rfl) (by kernel_rfl) (fun _ _ _ h => h) (Or.inl ⟨by rfl, ?_⟩) HBX4.out ?_
      rotate_left
      · intro wS hSw
        go_simp
        try with_reducible rfl
      try simp only [List.getElem_toArray, List.getElem_cons_zero, List.getElem_cons_succ, Act.put, List.setIfInBounds_toArray, List.set_cons_zero, List.set_cons_succ]
      refine wpAnyH_take (i := 10) (v := ?_) rfl (by kernel_rfl) (by kernel_rfl) (by kernel_rfl) (fun _ _ _ h => h) (Or.inl ⟨by rfl, ?_⟩) HBX4.out ?_
      rotate_left
      · intro wS hSw
        go_simp
        try with_reducible rfl
      try simp only [List.getElem_toArray, List.getElem_cons_zero, List.getElem_cons_succ, Act.put, List.setIfInBounds_toArray, List.set_cons_zero, List.set_cons_succ]
      refine wpAnyH_ready (rs := [11]) (by kernel_rfl) (by simp) ?_
      refine AllReadyH.cons rfl (fun K hK => ?_) AllReadyH.nil
      go_simp
      have HBX5 := Lib.hid (HBX4.out.alloc (.cells #[.int .i64 0, .int .i64 0, .slice none 0 0] 45))
      have HN5 := Lib.hid (Blk.new w4 45 #[.int .i64 0, .int .i64 0, .slice none 0 0])
      refine hK.out _ _ HBX5.out (fun _ => ?_)
      clear hK K
      try simp only [List.getElem_toArray, List.getElem_cons_zero, List.getElem_cons_succ, Act.put, List.setIfInBounds_toArray, List.set_cons_zero, List.set_cons_succ]
      refine wpAnyH_ready (rs := [12]) (by kernel_rfl) (by simp) ?_
      refine AllReadyH.cons rfl (fun K hK => ?_) AllReadyH.nil
      refine wp_store_row 45 (.tmp 11) (.tmp 33) rfl w4.heap.size #[.int .i64 1, .int .i64 (k : Int), .slice A5 k c5] rfl rfl 45 #[.int .i64 0, .int .i64 0, .slice none 0 0] HN5.out matInfo3 rfl (by simp [Value.oneCell']) ?_
      have HBX6 := Lib.hid (HBX5.out.rowFar (g' := w4.heap.size) (by have := HBX4.out.lt; omega) #[.int .i64 1, .int .i64 (k : Int), .slice A5 k c5])
      have q2 := (HN5.out.row #[.int .i64 1, .int .i64 (k : Int), .slice A5 k c5]).cell 2
      have HBF := Lib.hid (HB3.out.via (below_setRow (HB5.out.alloc HB5.out.size (.cells #[.int .i64 0, .int .i64 0, .slice none 0 0] 45)) HB5.out.size #[.int .i64 1, .int .i64 (k : Int), .slice A5 k c5]))
      have HOF := Lib.hid (own_setRow ((own_lowerB HO5.out (by exact Nat.le_trans HB3.out.size (Nat.le_refl _))).alloc (.cells #[.int .i64 0, .int .i64 0, .slice none 0 0] 45)) (g := w4.heap.size) (fun he => by have := (HO5.out.lt _ he).2; omega) #[.int .i64 1, .int .i64 (k : Int), .slice A5 k c5])
      refine hK.out _ _ HBX6.out (fun _ => ?_)
      clear hK K
      try simp only [List.getElem_toArray, List.getElem_cons_zero, List.getElem_cons_succ, Act.put, List.setIfInBounds_toArray, List.set_cons_zero, List.set_cons_succ]
      refine wpAnyH_take (i := 13) (v := ?_) rfl (by kernel_rfl) (by kernel_rfl) (by kernel_rfl) (fun _ _ _ h => h) (Or.inl ⟨by rfl, ?_⟩) HBX6.out ?_
      rotate_left
      · intro wS hSw
        go_simp
        try with_reducible rfl
      try simp only [List.getElem_toArray, List.getElem_cons_zero, List.getElem_cons_succ, Act.put, List.setIfInBounds_toArray, List.set_cons_zero, List.set_cons_succ]
      refine wpAnyH_done (by kernel_rfl) ?_ _
      simp only [List.getElem?_toArray, List.getElem?_cons_zero, List.getElem?_cons_succ] at q2
      generalize World.setRow _ _ _ = w6 at *
      go_wp2
      first | go_ret2 | go_ret
      exact ⟨X, A5, c5, rfl, HX.out, HOF.out, HBF.out⟩
    · go_simp
      have HBX4 : Hid (Blk (w3.alloc (.cells #[.int .i64 0, .int .i64 0, .slice none 0 0] 45)).drew g8 45 #[.int .i64 (k : Int), .int .i64 (k : Int), .slice A1 (k * k) c1]) := Lib.hid (HBX3.out.alloc (.cells #[.int .i64 0, .int .i64 0, .slice none 0 0] 45))
      have HN4 : Hid (Blk (w3.alloc (.cells #[.int .i64 0, .int .i64 0, .slice none 0 0] 45)).drew w3.heap.size 45 #[.int .i64 0, .int .i64 0, .slice none 0 0]) := Lib.hid (Blk.new w3.drew 45 #[.int .i64 0, .int .i64 0, .slice none 0 0])
      have HB4 : Hid (Below w3.heap.size w3 (w3.alloc (.cells #[.int .i64 0, .int .i64 0, .slice none 0 0] 45)).drew) := Lib.hid (HZ.out.alloc (Nat.le_refl _) (.cells #[.int .i64 0, .int .i64 0, .slice none 0 0] 45))
      refine hK.out _ _ HBX4.out (fun _ => ?_)
      clear hK K
      try simp only [List.getElem_toArray, List.getElem_cons_zero, List.getElem_cons_succ, Act.put, List.setIfInBounds_toArray, List.set_cons_zero, List.set_cons_succ]
      refine wpAnyH_ready (rs := [7]) (by kernel_rfl) (by simp) ?_
      refine AllReadyH.cons rfl (fun K hK => ?_) AllReadyH.nil
      go_simp
      refine (HMU.out _ HB4.out).mono ?_
      rintro e w4 ⟨A5, c5, rfl, ho5, hb5⟩
      have HBX5 := Lib.hid (HBX4.out.below hb5 HBX4.out.lt)
      have HN5 := Lib.hid (HN4.out.below hb5 HN4.out.lt)
      have HO5 := Lib.hid ho5
      have HB5 := Lib.hid (HB4.out.via hb5)
      clear ho5 hb5
      refine hK.out _ _ HBX5.out (fun _ => ?_)
      clear hK K
      try simp only [List.getElem_toArray, List.getElem_cons_zero, List.getElem_cons_succ, Act.put, List.setIfInBounds_toArray, List.set_cons_zero, List.set_cons_succ]
      refine wpAnyH_take (i := 8) (v := ?_) rfl (by kernel_rfl) (by kernel_rfl) (by kernel_rfl) (fun _ _ _ h => h) (Or.inl ⟨by rfl, ?_⟩) HBX5.out ?_
      rotate_left
      · intro wS hSw
        go_simp
        try with_reducible rfl
      try simp only [List.getElem_toArray, List.getElem_cons_zero, List.getElem_cons_succ, Act.put, List.setIfInBounds_toArray, List.set_cons_zero, List.set_cons_succ]
      refine wpAnyH_take (i := 9) (v := ?_) rfl (by kernel_rfl) (by kernel_rfl) (by kernel_rfl) (fun _ _ _ h => h) (Or.inl ⟨by rfl, ?_⟩) HBX5.out ?_
      rotate_left
      · intro wS hSw
        go_simp
        try with_reducible rfl
      try simp only [List.getElem_toArray, List.getElem_cons_zero, List.getElem_cons_succ, Act.put, List.setIfInBounds_toArray, List.set_cons_zero, List.set_cons_succ]
      refine wpAnyH_take (i := 10) (v := ?_) rfl (by kernel_rfl) (by kernel_rfl) (by kernel_rfl) (fun _ _ _ h => h) (Or.inl ⟨by rfl, ?_⟩) HBX5.out ?_
      rotate_left
      · intro wS hSw
        go_simp
        try with_reducible rfl
      try simp only [List.getElem_toArray, List.getElem_cons_zero, List.getElem_cons_succ, Act.put, List.setIfInBounds_toArray, List.set_cons_zero, List.set_cons_succ]
      refine wpAnyH_ready (rs := [12]) (by kernel_rfl) (by simp) ?_
      refine AllReadyH.cons rfl (fun K hK => ?_) AllReadyH.nil
      refine wp_store_row 45 (.tmp 11) (.tmp 33) rfl w3.heap.size #[.int .i64 1, .int .i64 (k : Int), .slice A5 k c5] rfl rfl 45 #[.int .i64 0, .int .i64 0, .slice none 0 0] HN5.out matInfo3 rfl (by simp [Value.oneCell']) ?_
      have HBX6 := Lib.hid (HBX5.out.rowFar (g' := w3.heap.size) (by have := HBX3.out.lt; have h2 : w3.drew.heap.size = w3.heap.size := rfl; omega) #[.int .i64 1, .int .i64 (k : Int), .slice A5 k c5])
      have q2 := (HN5.out.row #[.int .i64 1, .int .i64 (k : Int), .slice A5 k c5]).cell 2
      have HBF := Lib.hid (HB3.out.via (below_setRow HB5.out (Nat.le_refl _) #[.int .i64 1, .int .i64 (k : Int), .slice A5 k c5]))
      have HOF := Lib.hid (own_setRow (own_lowerB HO5.out (by exact Nat.le_trans HB3.out.size HB4.out.size)) (g := w3.heap.size) (fun he => by have := (HO5.out.lt _ he).1; have h2 := HN4.out.lt; omega) #[.int .i64 1, .int .i64 (k : Int), .slice A5 k c5])
      refine hK.out _ _ HBX6.out (fun _ => ?_)
      clear hK K
      try simp only [List.getElem_toArray, List.getElem_cons_zero, List.getElem_cons_succ, Act.put, List.setIfInBounds_toArray, List.set_cons_zero, List.set_cons_succ]
      refine wpAnyH_take (i := 13) (v := ?_) rfl (by kernel_rfl) (by kernel_rfl) (by kernel_rfl) (fun _ _ _ h => h) (Or.inl ⟨by rfl, ?_⟩) HBX6.out ?_
      rotate_left
      · intro wS hSw
        go_simp
        try with_reducible rfl
      try simp only [List.getElem_toArray, List.getElem_cons_zero, List.getElem_cons_succ, Act.put, List.setIfInBounds_toArray, List.set_cons_zero, List.set_cons_succ]
      refine wpAnyH_done (by kernel_rfl) ?_ _
      simp only [List.getElem?_toArray, List.getElem?_cons_zero, List.getElem?_cons_succ] at q2
      generalize World.setRow _ _ _ = w6 at *
      go_wp2
      first | go_ret2 | go_ret
      exact ⟨X, A5, c5, rfl, HX.out, HOF.out, HBF.out⟩
  · go_simp
    have HBX4 : Hid (Blk (w3.alloc (.cells #[.int .i64 0, .int .i64 0, .slice none 0 0] 45)).drew g8 45 #[.int .i64 (k : Int), .int .i64 (k : Int), .slice A1 (k * k) c1]) := Lib.hid (HBX3.out.alloc (.cells #[.int .i64 0, .int .i64 0, .slice none 0 0] 45))
    have HN4 : Hid (Blk (w3.alloc (.cells #[.int .i64 0, .int .i64 0, .slice none 0 0] 45)).drew w3.heap.size 45 #[.int .i64 0, .int .i64 0, .slice none 0 0]) := Lib.hid (Blk.new w3.drew 45 #[.int .i64 0, .int .i64 0, .slice none 0 0])
    have HB4 : Hid (Below w3.heap.size w3 (w3.alloc (.cells #[.int .i64 0, .int .i64 0, .slice none 0 0] 45)).drew) := Lib.hid (HZ.out.alloc (Nat.le_refl _) (.cells #[.int .i64 0, .int .i64 0, .slice none 0 0] 45))
    refine hK.out _ _ HBX4.out (fun _ => ?_)
    clear hK K
    try simp only [List.getElem_toArray, List.getElem_cons_zero, List.getElem_cons_succ, Act.put, List.setIfInBounds_toArray, List.set_cons_zero, List.set_cons_succ]
    refine wpAnyH_ready (rs := [1]) (by kernel_rfl) (by simp) ?_
    refine AllReadyH.cons rfl (fun K hK => ?_) AllReadyH.nil
    go_simp
    refine (HFI.out _ HB4.out).mono ?_
    rintro e w' ⟨rfl, rfl⟩
    refine hK.out _ _ HBX4.out (fun _ => ?_)
    clear hK K
    try simp only [List.getElem_toArray, List.getElem_cons_zero, List.getElem_cons_succ, Act.put, List.setIfInBounds_toArray, List.set_cons_zero, List.set_cons_succ]
    refine wpAnyH_ready (rs := [7]) (by kernel_rfl) (by simp) ?_
    refine AllReadyH.cons rfl (fun K hK => ?_) AllReadyH.nil
    go_simp
    refine (HMU.out _ HB4.out).mono ?_
    rintro e w4 ⟨A5, c5, rfl, ho5, hb5⟩
    have HBX5 := Lib.hid (HBX4.out.below hb5 HBX4.out.lt)
    have HN5 := Lib.hid (HN4.out.below hb5 HN4.out.lt)
    have HO5 := Lib.hid ho5
    have HB5 := Lib.hid (HB4.out.via hb5)
    clear ho5 hb5
    refine hK.out _ _ HBX5.out (fun _ => ?_)
    clear hK K
    try simp only [List.getElem_toArray, List.getElem_cons_zero, List.getElem_cons_succ, Act.put, List.setIfInBounds_toArray, List.set_cons_zero, List.set_cons_succ]
    refine wpAnyH_take (i := 8) (v := ?_) rfl (by kernel_rfl) (by kernel_rfl) (by kernel_rfl) (fun _ _ _ h => h) (Or.inl ⟨by rfl, ?_⟩) HBX5.out ?_
    rotate_left
    · intro wS hSw
      go_simp
      try with_reducible rfl
    try simp only [List.getElem_toArray, List.getElem_cons_zero, List.getElem_cons_succ, Act.put, List.setIfInBounds_toArray, List.set_cons_zero, List.set_cons_succ]
    refine wpAnyH_take (i := 9) (v := ?_) rfl (by kernel_rfl) (by kernel_rfl) (by kernel_rfl) (fun _ _ _ h => h) (Or.inl ⟨by rfl, ?_⟩) HBX5.out ?_
    rotate_left
    · intro wS hSw
      go_simp
      try with_reducible rfl
    try simp only [List.getElem_toArray, List.getElem_cons_zero, List.getElem_cons_succ, Act.put, List.setIfInBounds_toArray, List.set_cons_zero, List.set_cons_succ]
    refine wpAnyH_take (i := 10) (v := ?_) rfl (by kernel_rfl) (by kernel_rfl) (by kernel_rfl) (fun _ _ _ h => h) (Or.inl ⟨by rfl, ?_⟩) HBX5.out ?_
    rotate_left
    · intro wS hSw
      go_simp
      try with_reducible rfl
    try simp only [List.getElem_toArray, List.getElem_cons_zero, List.getElem_cons_succ, Act.put, List.setIfInBounds_toArray, List.set_cons_zero, List.set_cons_succ]
    refine wpAnyH_ready (rs := [12]) (by kernel_rfl) (by simp) ?_
    refine AllReadyH.cons rfl (fun K hK => ?_) AllReadyH.nil
    refine wp_store_row 45 (.tmp 11) (.tmp 33) rfl w3.heap.size #[.int .i64 1, .int .i64 (k : Int), .slice A5 k c5] rfl rfl 45 #[.int .i64 0, .int .i64 0, .slice none 0 0] HN5.out matInfo3 rfl (by simp [Value.oneCell']) ?_
    have HBX6 := Lib.hid (HBX5.out.rowFar (g' := w3.heap.size) (by have := HBX3.out.lt; have h2 : w3.drew.heap.size = w3.heap.size := rfl; omega) #[.int .i64 1, .int .i64 (k : Int), .slice A5 k c5])
    have q2 := (HN5.out.row #[.int .i64 1, .int .i64 (k : Int), .slice A5 k c5]).cell 2
    have HBF := Lib.hid (HB3.out.via (below_setRow HB5.out (Nat.le_refl _) #[.int .i64 1, .int .i64 (k : Int), .slice A5 k c5]))
    have HOF := Lib.hid (own_setRow (own_lowerB HO5.out (by exact Nat.le_trans HB3.out.size HB4.out.size)) (g := w3.heap.size) (fun he => by have := (HO5.out.lt _ he).1; have h2 := HN4.out.lt; omega) #[.int .i64 1, .int .i64 (k : Int), .slice A5 k c5])
    refine hK.out _ _ HBX6.out (fun _ => ?_)
    clear hK K
    try simp only [List.getElem_toArray, List.getElem_cons_zero, List.getElem_cons_succ, Act.put, List.setIfInBounds_toArray, List.set_cons_zero, List.set_cons_succ]
    refine wpAnyH_take (i := 13) (v := ?_) rfl (by kernel_rfl) (by kernel_rfl) (by kernel_rfl) (fun _ _ _ h => h) (Or.inl ⟨by rfl, ?_⟩) HBX6.out ?_
    rotate_left
    · intro wS hSw
      go_simp
      try with_reducible rfl
    try simp only [List.getElem_toArray, List.getElem_cons_zero, List.getElem_cons_succ, Act.put, List.setIfInBounds_toArray, List.set_cons_zero, List.set_cons_succ]
    refine wpAnyH_done (by kernel_rfl) ?_ _
    simp only [List.getElem?_toArray, List.getElem?_cons_zero, List.getElem?_cons_succ] at q2
    generalize World.setRow _ _ _ = w6 at *
    go_wp2
    first | go_ret2 | go_ret
    exact ⟨X, A5, c5, rfl, HX.out, HOF.out, HBF.out⟩
end Cib
