/- The document's Off. -/
import Derived.Test.YtmfilmkdaokbbaaDltP
set_option linter.unusedVariables false
set_option linter.unusedSimpArgs false
set_option maxRecDepth 40000
namespace Cib
open Go Go.RowKit Go.Proofs
theorem refOffNo7 (k m : Int) (L : List RowB) (B : Nat) (A2 : Option Addr) (n c2 : Nat) (w : World) (hr : Rd w B A2 (L.map RowB.v)) (hl : ∀ r ∈ L, r.bs.length = r.n) (hn : L.length = n) (hn2 : n ≤ maxLen) (hB : B ≤ w.heap.size) (hkm : IntKind.i64.wrap (k + m) = k + m) (hno : ¬ ((n : Int) = k + m ∧ Cod.evn (bss L) = true)) :
    Calls Try.prog 18 #[.int .i64 k, .int .i64 m, .slice A2 n c2] w (AnyI [] 2 w) := by
  have HE := Lib.hid (refEven5 L B A2 n c2 (k + m) w hr hl hn hn2 hB)
  rw [show (decide ((n : Int) = k + m) && Cod.evn (bss L)) = false from by
    rw [Bool.and_eq_false_iff]
    by_cases hk : (n : Int) = k + m
    · right
      cases hb : Cod.evn (bss L) with
      | false => rfl
      | true => exact absurd ⟨hk, hb⟩ hno
    · left
      simp [hk]] at HE
  clear hr hl hn hno
  go_enter Try.func18, Try.ntmps18
  go_wp2_with fail
  refine HE.out.mono ?_
  rintro e w1 ⟨rfl, hb1⟩
  go_wp2
  first | go_ret2 | go_ret
  exact ⟨_, 0, _, rfl, rfl, Nat.zero_le _, Rd.nil _ _ _, hb1⟩
set_option maxHeartbeats 1600000 in
theorem refOff7 (k m : Nat) (L : List RowB) (B : Nat) (A2 : Option Addr) (n c2 : Nat) (w : World) (hr : Rd w B A2 (L.map RowB.v)) (hR : RowsAt w B L) (hB : B ≤ w.heap.size) (hn : L.length = n) (hc : n ≤ c2) (hcm : c2 ≤ maxLen) (hrn : ∀ r ∈ L, r.n ≤ 1000000000) (hk : 1 ≤ k) (hs : k + m ≤ 255) (hnk : n = k + m) (hev : Cod.evn (bss L) = true) :
    Calls Try.prog 18 #[.int .i64 (k : Int), .int .i64 (m : Int), .slice A2 n c2] w (AnyI (Dlt.off k (bss L) m) 0 w) := by
  have HE := Lib.hid (refEven5 L B A2 n c2 ((k : Int) + m) w hr hR.lens hn (Nat.le_trans hc hcm) hB)
  rw [show (decide ((n : Int) = (k : Int) + m) && Cod.evn (bss L)) = true from by rw [hev, decide_eq_true (by omega)]; rfl] at HE
  have hwkm : IntKind.i64.wrap ((k : Int) + (m : Int)) = (k : Int) + (m : Int) := by rw [IntKind.wrap_i64]; omega
  have h0l : 0 < L.length := by omega
  have HEVT : Hid (Cod.evn (bss (L.take k)) = true) := by
    show _ = _
    rw [Cod.evn_true]
    intro r hr'
    rw [bss_take] at hr'
    have h1 := Cod.evn_true.1 hev r (List.mem_of_mem_take hr')
    rw [h1, bss_take]
    have h2 : 0 < (bss L).length := by simpa [bss] using h0l
    rw [Cod.len0_eq h2, Cod.len0_eq (by rw [List.length_take]; omega), List.getElem_take]
  have HSH := Lib.hid (fun (i : Nat) (hi : i < 256) (V : World) (hb : Below w.heap.size w V) => refShard5 (L.take k) B A2 k c2 i V (by rw [List.map_take]; exact (hr.below (hb.mono hB)).take k) (fun r hr' => (hR r (List.mem_of_mem_take hr')).below (hb.mono hB)) (Nat.le_trans hB hb.size) (by rw [List.length_take]; omega) hk (by omega) HEVT.out (fun r hr' => hrn r (List.mem_of_mem_take hr')) hi)
  rw [bss_take] at HSH
  have hsl := fun V : World => run_cut_to (P := Try.prog) 23 22 Try.underlying23 sizeRow A2 n c2 k .i64 (by omega) V
  have HR := Lib.hid hr
  have HRR := Lib.hid hR
  have HLN := Lib.hid hn
  have HNK := Lib.hid hnk
  obtain ⟨i0, hi, hz0, hz1, hz2⟩ := info_parts infoInt
  have HI0 := Lib.hid hi
  have HZ0 := Lib.hid hz0
  have HZ1 := Lib.hid hz1
  have HZ2 := Lib.hid hz2
  unfold maxLen at hcm
  clear hr hR hn hrn hev h0l hi hz0 hz1 hz2 hnk
  go_enter Try.func18, Try.ntmps18
  go_wp2_with fail
  refine HE.out.mono ?_
  rintro e w1 ⟨rfl, hb1⟩
  have HB1 := Lib.hid hb1
  go_wp2
  go_loopw [8, 9] (fun l i wr => ∃ (p q : Nat) (A' : Option Addr) (c' : Nat), i = .int .i64 ((k + p : Nat) : Int) ∧ p ≤ m ∧ l = .slice A' q c' ∧ q ≤ p ∧ Hid ((Dlt.off k (bss L) p).length = q) ∧ Hid (wr.ownsRow w.heap.size 3 1 (.slice A' q c') q ((Dlt.off k (bss L) p).map iv)) ∧ Hid (Below w.heap.size w wr)) (fun _ i _ => k + m - (intOf i).toNat)
  case atStart => exact ⟨0, 0, none, 0, by go_num, Nat.zero_le _, rfl, Nat.le_refl _, rfl, World.ownsRow_nil _ _ _ _, hb1⟩
  case round =>
    clear HE hb1 HB1
    obtain ⟨p, q, A', c', rfl, hp, rfl, hqp, HQ, HO, HB7⟩ := hrel
    have hz := HB7.out.size
    by_cases hlt : p < m
    · obtain ⟨x, hx⟩ : ∃ x, k + p = x := ⟨_, rfl⟩
      rw [hx]
      have hxm : (x : Int) < (k : Int) + (m : Int) := by omega
      have hpl : x < L.length := by rw [HLN.out, HNK.out]; omega
      have hxn : x < n := by rw [HNK.out]; omega
      obtain ⟨ad, rfl, _, hcell⟩ := (HR.out.below (HB7.out.mono hB)).row hpl
      have hq' := (HRR.out.get hpl).below (HB7.out.mono hB)
      have HG : Hid ((bss L).getD x [] = L[x].bs) := (show _ = _ from bss_get hpl)
      have HSX := Lib.hid (HSH.out x (by omega) wr.drew (below_drewN HB7.out 1))
      generalize L[x] = r at *
      obtain ⟨rA, rn, rc, bs⟩ := r
      simp only at hcell HG
      have hg := block_lt_of_cell hcell
      have hca : wr.drew.cell? (ad.add x) = some (.slice rA rn rc) := hcell
      have HQR := Lib.hid hq'
      have HX := Lib.hid hx
      have HOD : Hid (wr.drew.ownsRow w.heap.size 3 1 (.slice A' q c') q ((Dlt.off k (bss L) p).map iv)) := HO.out
      have HBD : Hid (Below w.heap.size w wr.drew) := below_drewN HB7.out 1
      by_cases heq : bs = Cod.shard k ((bss L).take k) x
      · have HOF : Hid (Dlt.off k (bss L) (p + 1) = Dlt.off k (bss L) p) := (show _ = _ by rw [Dlt.off, HX.out, HG.out, if_pos heq])
        rw [← heq] at HSX
        have hself : (bs == bs) = true := by simp
        rw [← HOF.out] at HQ HOD
        clear hq' hcell heq HB7 HO hx
        go_wp2
        refine wp_region_held_drew (S := (fun wQq => Below (World.heap (wr.drew)).size (wr.drew) wQq)) (by kernel_rfl) (by exact Below.refl _ _) (fun _ => ?_)
        refine wpAnyH_take (i := 0) (v := ?_) rfl (by kernel_rfl) (by kernel_rfl) (by kernel_rfl) (fun _ _ _ h => h) (Or.inl ⟨by rfl, ?_⟩) (Below.refl _ _) ?_
        rotate_left
        · intro wS hSw
          go_simp
          try with_reducible rfl
        try simp only [List.getElem_toArray, List.getElem_cons_zero, List.getElem_cons_succ, Act.put, List.setIfInBounds_toArray, List.set_cons_zero, List.set_cons_succ]
        refine wpAnyH_take (i := 1) (v := ?_) rfl (by kernel_rfl) (by kernel_rfl) (by kernel_rfl) (fun _ _ _ h => h) (Or.inl ⟨by rfl, ?_⟩) (Below.refl _ _) ?_
        rotate_left
        · intro wS hSw
          go_simp
          try with_reducible rfl
        try simp only [List.getElem_toArray, List.getElem_cons_zero, List.getElem_cons_succ, Act.put, List.setIfInBounds_toArray, List.set_cons_zero, List.set_cons_succ]
        refine wpAnyH_take (i := 2) (v := ?_) rfl (by kernel_rfl) (by kernel_rfl) (by kernel_rfl) (fun _ _ _ h => h) (Or.inl ⟨by rfl, ?_⟩) (Below.refl _ _) ?_
        rotate_left
        · intro wS hSw
          go_simp
          try with_reducible rfl
        try simp only [List.getElem_toArray, List.getElem_cons_zero, List.getElem_cons_succ, Act.put, List.setIfInBounds_toArray, List.set_cons_zero, List.set_cons_succ]
        refine wpAnyH_take (i := 3) (v := ?_) rfl (by kernel_rfl) (by kernel_rfl) (by kernel_rfl) (fun _ _ _ h => h) (Or.inl ⟨by rfl, ?_⟩) (Below.refl _ _) ?_
        rotate_left
        · intro wS hSw
          go_simp
          try with_reducible rfl
        try simp only [List.getElem_toArray, List.getElem_cons_zero, List.getElem_cons_succ, Act.put, List.setIfInBounds_toArray, List.set_cons_zero, List.set_cons_succ]
        refine wpAnyH_take (i := 6) (v := ?_) rfl (by kernel_rfl) (by kernel_rfl) (by kernel_rfl) (fun _ _ _ h => h) (Or.inl ⟨by rfl, ?_⟩) (Below.refl _ _) ?_
        rotate_left
        · intro wS hSw
          go_simp
          try with_reducible rfl
        try simp only [List.getElem_toArray, List.getElem_cons_zero, List.getElem_cons_succ, Act.put, List.setIfInBounds_toArray, List.set_cons_zero, List.set_cons_succ]
        refine wpAnyH_take (i := 7) (v := ?_) rfl (by kernel_rfl) (by kernel_rfl) (by kernel_rfl) (fun _ _ _ h => h) (Or.inl ⟨by rfl, ?_⟩) (Below.refl _ _) ?_
        rotate_left
        · intro wS hSw
          go_simp
          try with_reducible rfl
        try simp only [List.getElem_toArray, List.getElem_cons_zero, List.getElem_cons_succ, Act.put, List.setIfInBounds_toArray, List.set_cons_zero, List.set_cons_succ]
        refine wpAnyH_take (i := 8) (v := ?_) rfl (by kernel_rfl) (by kernel_rfl) (by kernel_rfl) (fun _ _ _ h => h) (Or.inl ⟨by rfl, ?_⟩) (Below.refl _ _) ?_
        rotate_left
        · intro wS hSw
          go_simp
          try with_reducible rfl
        try simp only [List.getElem_toArray, List.getElem_cons_zero, List.getElem_cons_succ, Act.put, List.setIfInBounds_toArray, List.set_cons_zero, List.set_cons_succ]
        refine wpAnyH_take (i := 9) (v := ?_) rfl (by kernel_rfl) (by kernel_rfl) (by kernel_rfl) (fun _ _ _ h => h) (Or.inl ⟨by rfl, ?_⟩) (Below.refl _ _) ?_
        rotate_left
        · intro wS hSw
          have hcv := ((hSw.cell (p := ad.add x) hg).trans hca)
          go_simp
          try with_reducible rfl
        try simp only [List.getElem_toArray, List.getElem_cons_zero, List.getElem_cons_succ, Act.put, List.setIfInBounds_toArray, List.set_cons_zero, List.set_cons_succ]
        refine wpAnyH_take (i := 10) (v := ?_) rfl (by kernel_rfl) (by kernel_rfl) (by kernel_rfl) (fun _ _ _ h => h) (Or.inl ⟨by rfl, ?_⟩) (Below.refl _ _) ?_
        rotate_left
        · intro wS hSw
          have hcv := str_run (HQR.out.rd.drewN 1) (hSw.mono (Nat.le_refl _)) (Nat.le_trans hB hz) HQR.out.len rc
          go_simp
          try with_reducible rfl
        try simp only [List.getElem_toArray, List.getElem_cons_zero, List.getElem_cons_succ, Act.put, List.setIfInBounds_toArray, List.set_cons_zero, List.set_cons_succ]
        refine wpAnyH_ready (rs := [4]) (by kernel_rfl) (by simp) ?_
        refine AllReadyH.cons rfl (fun K hK => ?_) AllReadyH.nil
        go_simp
        refine HSX.out.mono ?_
        rintro e w2 ⟨A3, n3, c3, rfl, hn3, ho3, hb2⟩
        have hr3 := Rd.of_own ho3
        refine hK.out _ _ hb2 (fun _ => ?_)
        clear hK K
        try simp only [List.getElem_toArray, List.getElem_cons_zero, List.getElem_cons_succ, Act.put, List.setIfInBounds_toArray, List.set_cons_zero, List.set_cons_succ]
        refine wpAnyH_strong (S2 := fun w' => Below (World.heap w2).size w2 w') (fun _ h => Below.via hb2 h) ?_
        refine wpAnyH_take (i := 5) (v := ?_) rfl (by kernel_rfl) (by kernel_rfl) (by kernel_rfl) (fun _ _ _ h => h) (Or.inl ⟨by rfl, ?_⟩) (Below.refl _ _) ?_
        rotate_left
        · intro wS hSw
          have hcv := str_run hr3 hSw (Nat.le_refl _) hn3 c3
          go_simp
          try with_reducible rfl
        try simp only [List.getElem_toArray, List.getElem_cons_zero, List.getElem_cons_succ, Act.put, List.setIfInBounds_toArray, List.set_cons_zero, List.set_cons_succ]
        refine wpAnyH_take (i := 11) (v := ?_) rfl (by kernel_rfl) (by kernel_rfl) (by kernel_rfl) (fun _ _ _ h => h) (Or.inl ⟨by rfl, ?_⟩) (Below.refl _ _) ?_
        rotate_left
        · intro wS hSw
          go_simp
          try with_reducible rfl
        try simp only [List.getElem_toArray, List.getElem_cons_zero, List.getElem_cons_succ, Act.put, List.setIfInBounds_toArray, List.set_cons_zero, List.set_cons_succ]
        refine wpAnyH_done (by kernel_rfl) ?_ _
        have HB2 := Lib.hid (HBD.out.via hb2)
        have HO2 := Lib.hid (own_via HOD.out hb2)
        clear hb2 ho3 hr3
        go_wp2
        go_roundw
        case rel => exact ⟨p + 1, q, A', c', int_eq (by have := HX.out; omega), hlt, rfl, by omega, HQ, HO2, HB2⟩
        case measure => simp [intOf]; omega
      · have HOF : Hid (Dlt.off k (bss L) (p + 1) = Dlt.off k (bss L) p ++ [x]) := (show _ = _ by rw [Dlt.off, HX.out, HG.out, if_neg heq])
        have hself : (Cod.shard k ((bss L).take k) x == bs) = false := by simp; exact fun h => heq h.symm
        clear hq' hcell heq HB7 HO hx
        go_wp2
        refine wp_region_held_drew (S := (fun wQq => Below (World.heap (wr.drew)).size (wr.drew) wQq)) (by kernel_rfl) (by exact Below.refl _ _) (fun _ => ?_)
        refine wpAnyH_take (i := 0) (v := ?_) rfl (by kernel_rfl) (by kernel_rfl) (by kernel_rfl) (fun _ _ _ h => h) (Or.inl ⟨by rfl, ?_⟩) (Below.refl _ _) ?_
        rotate_left
        · intro wS hSw
          go_simp
          try with_reducible rfl
        try simp only [List.getElem_toArray, List.getElem_cons_zero, List.getElem_cons_succ, Act.put, List.setIfInBounds_toArray, List.set_cons_zero, List.set_cons_succ]
        refine wpAnyH_take (i := 1) (v := ?_) rfl (by kernel_rfl) (by kernel_rfl) (by kernel_rfl) (fun _ _ _ h => h) (Or.inl ⟨by rfl, ?_⟩) (Below.refl _ _) ?_
        rotate_left
        · intro wS hSw
          go_simp
          try with_reducible rfl
        try simp only [List.getElem_toArray, List.getElem_cons_zero, List.getElem_cons_succ, Act.put, List.setIfInBounds_toArray, List.set_cons_zero, List.set_cons_succ]
        refine wpAnyH_take (i := 2) (v := ?_) rfl (by kernel_rfl) (by kernel_rfl) (by kernel_rfl) (fun _ _ _ h => h) (Or.inl ⟨by rfl, ?_⟩) (Below.refl _ _) ?_
        rotate_left
        · intro wS hSw
          go_simp
          try with_reducible rfl
        try simp only [List.getElem_toArray, List.getElem_cons_zero, List.getElem_cons_succ, Act.put, List.setIfInBounds_toArray, List.set_cons_zero, List.set_cons_succ]
        refine wpAnyH_take (i := 3) (v := ?_) rfl (by kernel_rfl) (by kernel_rfl) (by kernel_rfl) (fun _ _ _ h => h) (Or.inl ⟨by rfl, ?_⟩) (Below.refl _ _) ?_
        rotate_left
        · intro wS hSw
          go_simp
          try with_reducible rfl
        try simp only [List.getElem_toArray, List.getElem_cons_zero, List.getElem_cons_succ, Act.put, List.setIfInBounds_toArray, List.set_cons_zero, List.set_cons_succ]
        refine wpAnyH_take (i := 6) (v := ?_) rfl (by kernel_rfl) (by kernel_rfl) (by kernel_rfl) (fun _ _ _ h => h) (Or.inl ⟨by rfl, ?_⟩) (Below.refl _ _) ?_
        rotate_left
        · intro wS hSw
          go_simp
          try with_reducible rfl
        try simp only [List.getElem_toArray, List.getElem_cons_zero, List.getElem_cons_succ, Act.put, List.setIfInBounds_toArray, List.set_cons_zero, List.set_cons_succ]
        refine wpAnyH_take (i := 7) (v := ?_) rfl (by kernel_rfl) (by kernel_rfl) (by kernel_rfl) (fun _ _ _ h => h) (Or.inl ⟨by rfl, ?_⟩) (Below.refl _ _) ?_
        rotate_left
        · intro wS hSw
          go_simp
          try with_reducible rfl
        try simp only [List.getElem_toArray, List.getElem_cons_zero, List.getElem_cons_succ, Act.put, List.setIfInBounds_toArray, List.set_cons_zero, List.set_cons_succ]
        refine wpAnyH_take (i := 8) (v := ?_) rfl (by kernel_rfl) (by kernel_rfl) (by kernel_rfl) (fun _ _ _ h => h) (Or.inl ⟨by rfl, ?_⟩) (Below.refl _ _) ?_
        rotate_left
        · intro wS hSw
          go_simp
          try with_reducible rfl
        try simp only [List.getElem_toArray, List.getElem_cons_zero, List.getElem_cons_succ, Act.put, List.setIfInBounds_toArray, List.set_cons_zero, List.set_cons_succ]
        refine wpAnyH_take (i := 9) (v := ?_) rfl (by kernel_rfl) (by kernel_rfl) (by kernel_rfl) (fun _ _ _ h => h) (Or.inl ⟨by rfl, ?_⟩) (Below.refl _ _) ?_
        rotate_left
        · intro wS hSw
          have hcv := ((hSw.cell (p := ad.add x) hg).trans hca)
          go_simp
          try with_reducible rfl
        try simp only [List.getElem_toArray, List.getElem_cons_zero, List.getElem_cons_succ, Act.put, List.setIfInBounds_toArray, List.set_cons_zero, List.set_cons_succ]
        refine wpAnyH_take (i := 10) (v := ?_) rfl (by kernel_rfl) (by kernel_rfl) (by kernel_rfl) (fun _ _ _ h => h) (Or.inl ⟨by rfl, ?_⟩) (Below.refl _ _) ?_
        rotate_left
        · intro wS hSw
          have hcv := str_run (HQR.out.rd.drewN 1) (hSw.mono (Nat.le_refl _)) (Nat.le_trans hB hz) HQR.out.len rc
          go_simp
          try with_reducible rfl
        try simp only [List.getElem_toArray, List.getElem_cons_zero, List.getElem_cons_succ, Act.put, List.setIfInBounds_toArray, List.set_cons_zero, List.set_cons_succ]
        refine wpAnyH_ready (rs := [4]) (by kernel_rfl) (by simp) ?_
        refine AllReadyH.cons rfl (fun K hK => ?_) AllReadyH.nil
        go_simp
        refine HSX.out.mono ?_
        rintro e w2 ⟨A3, n3, c3, rfl, hn3, ho3, hb2⟩
        have hr3 := Rd.of_own ho3
        refine hK.out _ _ hb2 (fun _ => ?_)
        clear hK K
        try simp only [List.getElem_toArray, List.getElem_cons_zero, List.getElem_cons_succ, Act.put, List.setIfInBounds_toArray, List.set_cons_zero, List.set_cons_succ]
        refine wpAnyH_strong (S2 := fun w' => Below (World.heap w2).size w2 w') (fun _ h => Below.via hb2 h) ?_
        refine wpAnyH_take (i := 5) (v := ?_) rfl (by kernel_rfl) (by kernel_rfl) (by kernel_rfl) (fun _ _ _ h => h) (Or.inl ⟨by rfl, ?_⟩) (Below.refl _ _) ?_
        rotate_left
        · intro wS hSw
          have hcv := str_run hr3 hSw (Nat.le_refl _) hn3 c3
          go_simp
          try with_reducible rfl
        try simp only [List.getElem_toArray, List.getElem_cons_zero, List.getElem_cons_succ, Act.put, List.setIfInBounds_toArray, List.set_cons_zero, List.set_cons_succ]
        refine wpAnyH_take (i := 11) (v := ?_) rfl (by kernel_rfl) (by kernel_rfl) (by kernel_rfl) (fun _ _ _ h => h) (Or.inl ⟨by rfl, ?_⟩) (Below.refl _ _) ?_
        rotate_left
        · intro wS hSw
          go_simp
          try with_reducible rfl
        try simp only [List.getElem_toArray, List.getElem_cons_zero, List.getElem_cons_succ, Act.put, List.setIfInBounds_toArray, List.set_cons_zero, List.set_cons_succ]
        refine wpAnyH_done (by kernel_rfl) ?_ _
        have HB2 := Lib.hid (HBD.out.via hb2)
        have HO2 := Lib.hid (own_via HOD.out hb2)
        have hz2 : w.heap.size ≤ w2.heap.size := HB2.out.size
        clear hb2 ho3 hr3
        go_wp2_with (at_builtin; refine wpList_app _ rfl (.tmp 36) (.tmp 38) _ rfl w.heap.size 3 i0 _ 8 Try.underlying41 HI0.out HZ0.out HZ1.out HZ2.out rfl A' q c' ((Dlt.off k (bss L) p).map iv) rfl (HO2.out.alloc _) _ (some ⟨w2.heap.size, 0, none⟩) 1 1 [iv x] rfl rfl (Rd.new w2 _ _ _ rfl) (iv_one (l := [x])) (by unfold maxLen; omega) (by omega) (by simp; omega) ?_; intro A1 c1' w8 ho1 hg1 hb1)
        go_roundw
        case rel => exact ⟨p + 1, q + 1, A1, c1', int_eq (by have := HX.out; omega), hlt, rfl, by omega, (show _ = _ by rw [HOF.out, List.length_append, HQ.out]; rfl), (show World.ownsRow _ _ _ _ _ _ _ by rw [HOF.out, List.map_append]; exact ho1), (HB2.out.alloc hz2 _).trans hb1⟩
        case measure => simp [intOf]; omega
    · obtain rfl : p = m := by omega
      have hlt' : ¬ (((k + p : Nat) : Int) < (k : Int) + (p : Int)) := by omega
      have HR7 := Lib.hid (Rd.of_own HO.out)
      go_wp2
      first | go_ret2 | go_ret
      exact ⟨A', q, c', rfl, HQ.out, by omega, HR7.out, HB7.out⟩
end Cib
