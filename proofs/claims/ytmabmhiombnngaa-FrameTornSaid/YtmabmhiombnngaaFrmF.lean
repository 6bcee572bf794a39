/- The document's All; the same rows? -/
import Derived.Test.YtmabmhiombnngaaFrmA
import Derived.Test.YtmabmhiombnngaaFrmE
set_option linter.unusedVariables false
set_option linter.unusedSimpArgs false
set_option maxRecDepth 40000
namespace Cib
open Go Go.RowKit Go.Proofs
set_option maxHeartbeats 1000000 in
theorem refAll (A : Option Addr) (n c : Nat) (L : List RowB) (w : World) (h : Rd w w.heap.size A (L.map RowB.v)) (hR : RowsAt w w.heap.size L) (hl : L.length = n) (hc : n ≤ c) (hcm : c ≤ maxLen) (hn : n ≤ 1000000) (hm : ∀ r ∈ L, r.n ≤ 1000000) :
    Calls Try.prog 19 #[.slice A n c] w (NewR (Frm.all (L.map (·.bs))).1 ((Frm.all (L.map (·.bs))).2 : Int) w) := by
  have HRD := Lib.hid h
  have HRR := Lib.hid hR
  have HL := Lib.hid hl
  have HM := Lib.hid hm
  unfold maxLen at hcm
  clear h hR hl hm
  unfold NewR
  obtain ⟨J, hJ⟩ : ∃ J, Frm.all (L.map (·.bs)) = J := ⟨_, rfl⟩
  rw [hJ]
  have HJ0 := Lib.hid hJ
  clear hJ
  obtain ⟨J1, J2⟩ := J
  simp only
  go_enter Try.func19, Try.ntmps19
  go_wp2
  go_loopw [4, 5, 6, 7, 8] (fun o i _ _ _ wr => ∃ (p : Nat) (M : List RowB) (Ao : Option Addr) (no co : Nat), i = .int .i64 p ∧ p ≤ n ∧ o = .slice Ao no co ∧ no ≤ p ∧ Hid (no = M.length) ∧ Hid (CutI w M Ao co wr) ∧ Hid (M.map (·.bs) ++ (Frm.all ((L.map (·.bs)).drop p)).1 = J1 ∧ p + (Frm.all ((L.map (·.bs)).drop p)).2 = J2)) (fun _ i _ _ _ _ => n - (intOf i).toNat)
  case atStart => exact ⟨0, [], none, 0, 0, rfl, Nat.zero_le _, rfl, Nat.le_refl _, Lib.hid rfl, Lib.hid (CutI.nil w), Lib.hid (by rw [List.drop_zero, HJ0.out]; exact ⟨rfl, Nat.zero_add _⟩)⟩
  case round =>
    clear HJ0
    obtain ⟨p, M, Ao, no, co, rfl, hp, rfl, hno, HNO, HI, HJ⟩ := hrel
    have hsl := fun V : World => run_cut_from (P := Try.prog) 33 26 Try.underlying33 sizeRow A n c p .i64 hp V
    have HJN := Lib.hid (refJoin (cut A c p) (n - p) (c - p) (L.drop p) wr (by
      have := ((HRD.out.below HI.out.below).more HI.out.below.size).cut (c := c) (k := p) (by rw [List.length_map, HL.out]; exact hp) (by rw [List.length_map, HL.out]; exact hc)
      rw [← List.map_drop] at this
      exact this) (rows_dropR ((HRR.out.below HI.out.below).more HI.out.below.size) p) (by rw [List.length_drop, HL.out]) (by omega) (fun r hr => HM.out r (List.mem_of_mem_drop hr)))
    rw [List.map_drop] at HJN
    unfold JoinR at HJN
    have HLE := Lib.hid (Frm.joinF_le ((L.map (·.bs)).drop p) 0 0#32 [])
    have HAO := Lib.hid fun t k (h : Frm.joinF 0 0#32 [] ((L.map (·.bs)).drop p) = (t, k, 0)) => Frm.all_ok h
    have HAN := Lib.hid (Frm.all_no (l := (L.map (·.bs)).drop p))
    rw [List.length_drop, List.length_map, HL.out] at HLE
    obtain ⟨K, hK⟩ : ∃ K, Frm.joinF 0 0#32 [] ((L.map (·.bs)).drop p) = K := ⟨_, rfl⟩
    rw [hK] at HJN HLE HAO HAN
    clear hK
    obtain ⟨t, k, er⟩ := K
    simp only at HJN HLE HAN
    generalize cut A c p = Ap at *
    go_wp2_with fail
    refine HJN.out.mono ?_
    rintro e w2 ⟨A2, n2, c2, rfl, hl2, ho2, hb2⟩
    have hsz := HI.out.below.size
    by_cases he : er = 0
    · subst he
      obtain ⟨hk1, hk2⟩ := HLE.out rfl
      have hAO := HAO.out t k rfl
      rw [List.drop_drop] at hAO
      have HPU := Lib.hid fun A4 c4 w4 ho4 hg4 hb4 => HI.out.push (r := ⟨A2, n2, c2, t⟩) (w2 := w2) (w3 := w4) (A3 := A4) (c3 := c4) hb2 ho2 ho4 hg4 hb4
      have HOW2 : Hid (w2.ownsRow w.heap.size 26 1 (.slice Ao no co) no (M.map RowB.v)) := Lib.hid (by rw [HNO.out]; exact own_via HI.out.own hb2)
      have hsz3 : w.heap.size ≤ w2.heap.size := Nat.le_trans hsz hb2.size
      have HJ2 : Hid ((M ++ [(⟨A2, n2, c2, t⟩ : RowB)]).map (·.bs) ++ (Frm.all ((L.map (·.bs)).drop (p + k))).1 = J1 ∧ p + k + (Frm.all ((L.map (·.bs)).drop (p + k))).2 = J2) := Lib.hid (by
        have := HJ.out
        rw [hAO] at this
        refine ⟨?_, by have := this.2; simp only at this; omega⟩
        rw [← this.1]
        simp)
      have HNO2 : Hid (no + 1 = (M ++ [(⟨A2, n2, c2, t⟩ : RowB)]).length) := Lib.hid (by rw [List.length_append, ← HNO.out]; rfl)
      have hw1 : IntKind.i64.wrap ((p : Int) + (k : Int)) = (p : Int) + (k : Int) := by rw [IntKind.wrap_i64]; omega
      clear hl2 ho2 hb2 HJN HLE HAO HAN hAO HJ
      rw [← HNO.out] at HPU
      go_wp2_with (at_builtin; go_loud (refine appR _ rfl (.tmp 21) (.tmp 23) rfl w.heap.size Ao no co (M.map RowB.v) rfl (HOW2.out.alloc _) _ (some ⟨w2.heap.size, 0, none⟩) 1 1 [.slice A2 n2 c2] rfl rfl (Rd.new w2 _ _ _ rfl) (one_rows (L := [⟨A2, n2, c2, []⟩])) (by omega) (by simp; omega) ?_; intro A4 c4 w4 ho4 hg4 hb4; have HI4 := Lib.hid (HPU.out A4 c4 w4 ho4 hg4 hb4); clear ho4 hg4 hb4))
      go_roundw
      case rel => exact ⟨p + k, M ++ [⟨A2, n2, c2, t⟩], A4, no + 1, c4, by go_num, by omega, rfl, by omega, HNO2, HI4, HJ2⟩
      case measure => simp [intOf]; omega
    · have hne : ((er : Int) != 0) = true := by simp; omega
      have hAN := HAN.out he
      have HB2 := Lib.hid (HI.out.via hb2)
      have hJ := HJ.out
      rw [hAN] at hJ
      obtain ⟨rfl, rfl⟩ := hJ
      clear he hl2 ho2 hb2 HJN HLE HAO HAN hAN HJ
      go_wp2
      first | go_ret2 | go_ret
      refine ⟨Ao, no, co, rfl, M, rfl, HNO.out.symm, ?_, HB2.out.rows, HB2.out.below⟩
      rw [HNO.out]
      exact HB2.out.own
def bss (L : List RowB) : List (List UInt8) := L.map (·.bs)
/-- Are rows the same? -/
theorem refSame5 (L M : List RowB) (B : Nat) (A1 A2 : Option Addr) (n1 c1 n2 c2 : Nat) (w : World) (hr1 : Rd w B A1 (L.map RowB.v)) (hR1 : RowsAt w B L) (hr2 : Rd w B A2 (M.map RowB.v)) (hR2 : RowsAt w B M) (hn1 : L.length = n1) (hn2 : M.length = n2) (hB : B ≤ w.heap.size) (hm1 : n1 ≤ maxLen) (hm2 : n2 ≤ maxLen) :
    Calls Try.prog 16 #[.slice A1 n1 c1, .slice A2 n2 c2] w fun e w' => (∃ x, e = .returned (.bool x) ∧ (x = true ↔ bss L = bss M)) ∧ Below w.heap.size w w' := by
  unfold maxLen at hm1 hm2
  by_cases hne : n1 = n2
  · subst hne
    have HR1 := Lib.hid hr1
    have HRR1 := Lib.hid hR1
    have HR2 := Lib.hid hr2
    have HRR2 := Lib.hid hR2
    have HN1 := Lib.hid hn1
    have HN2 := Lib.hid hn2
    clear hr1 hr2 hR1 hR2 hn1 hn2
    go_enter Try.func16, Try.ntmps16
    go_wp2
    go_loopw [5] (fun i wr => ∃ p : Nat, i = .int .i64 p ∧ p ≤ n1 ∧ Hid (Below w.heap.size w wr) ∧ Hid ((bss L).take p = (bss M).take p)) (fun i _ => n1 - (intOf i).toNat)
    case atStart => exact ⟨0, rfl, Nat.zero_le _, Below.refl _ _, rfl⟩
    case round =>
      obtain ⟨p, rfl, hp, HB, hI⟩ := hrel
      by_cases hlt : p < n1
      · have hp1 : p < L.length := by rw [HN1.out]; exact hlt
        have hp2 : p < M.length := by rw [HN2.out]; exact hlt
        obtain ⟨ad1, rfl, hab1, hcell1⟩ := (HR1.out.below (HB.out.mono hB)).row hp1
        obtain ⟨ad2, rfl, hab2, hcell2⟩ := (HR2.out.below (HB.out.mono hB)).row hp2
        have hq1 := (HRR1.out.get hp1).below (HB.out.mono hB)
        have hq2 := (HRR2.out.get hp2).below (HB.out.mono hB)
        have hb1 : p < (bss L).length := by simpa [bss] using hp1
        have hb2 : p < (bss M).length := by simpa [bss] using hp2
        have HT1 := Lib.hid (List.take_succ_eq_append_getElem hb1)
        have HT2 := Lib.hid (List.take_succ_eq_append_getElem hb2)
        have HG1 : Hid ((bss L)[p] = L[p].bs) := (show _ = _ by simp [bss])
        have HG2 : Hid ((bss M)[p] = M[p].bs) := (show _ = _ by simp [bss])
        rw [HG1.out] at HT1
        rw [HG2.out] at HT2
        generalize L[p] = r1 at *
        generalize M[p] = r2 at *
        obtain ⟨rA1, rn1, rc1, bs1⟩ := r1
        obtain ⟨rA2, rn2, rc2, bs2⟩ := r2
        simp only at hcell1 hcell2 HG1 HG2 HT1 HT2
        have HQ1 := Lib.hid hq1
        have HQ2 := Lib.hid hq2
        have hz := HB.out.size
        have hg1 := block_lt_of_cell hcell1
        have hg2 := block_lt_of_cell hcell2
        have HB3 := Lib.hid (below_drewN HB.out 1)
        have hca : wr.drew.cell? (ad1.add p) = some (.slice rA1 rn1 rc1) := hcell1
        have hcb : wr.drew.cell? (ad2.add p) = some (.slice rA2 rn2 rc2) := hcell2
        clear hq1 hq2 HB hcell1 hcell2
        by_cases he : bs1 = bs2
        · have hbe : (bs1 == bs2) = true := by simp [he]
          have HNX : Hid ((bss L).take (p + 1) = (bss M).take (p + 1)) := (show _ = _ by rw [HT1.out, HT2.out, hI.out, he])
          clear hI HT1 HT2 he
          go_wp2
          refine wp_region_held_drew (S := (fun wQq => Below (World.heap (wr.drew)).size (wr.drew) wQq)) (by kernel_rfl) (by exact Below.refl _ _) (fun _ => ?_)
          refine wpAnyH_take (i := 0) (v := ?_) rfl (by kernel_rfl) (by kernel_rfl) (by kernel_rfl) (fun _ _ _ h => h) (Or.inl ⟨by rfl, ?_⟩) (Below.refl _ _) ?_
          rotate_left
          · intro wS hSw
            go_simp
            try with_reducible rfl
          try simp only [List.getElem_toArray, List.getElem_cons_zero, List.getElem_cons_succ, Act.put, List.setIfInBounds_toArray, List.set_cons_zero, List.set_cons_succ]
          refine wpAnyH_take (i := 1) (v := ?_) rfl (by kernel_rfl) (by kernel_rfl) (by kernel_rfl) (fun _ _ _ h => h) (Or.inl ⟨by rfl, ?_⟩) (Below.refl _ _) ?_
          rotate_left
          · intro wS hSw
            go_simp
            try with_reducible rfl
          try simp only [List.getElem_toArray, List.getElem_cons_zero, List.getElem_cons_succ, Act.put, List.setIfInBounds_toArray, List.set_cons_zero, List.set_cons_succ]
          refine wpAnyH_take (i := 2) (v := ?_) rfl (by kernel_rfl) (by kernel_rfl) (by kernel_rfl) (fun _ _ _ h => h) (Or.inl ⟨by rfl, ?_⟩) (Below.refl _ _) ?_
          rotate_left
          · intro wS hSw
            go_simp
            try with_reducible rfl
          try simp only [List.getElem_toArray, List.getElem_cons_zero, List.getElem_cons_succ, Act.put, List.setIfInBounds_toArray, List.set_cons_zero, List.set_cons_succ]
          refine wpAnyH_take (i := 5) (v := ?_) rfl (by kernel_rfl) (by kernel_rfl) (by kernel_rfl) (fun _ _ _ h => h) (Or.inl ⟨by rfl, ?_⟩) (Below.refl _ _) ?_
          rotate_left
          · intro wS hSw
            go_simp
            try with_reducible rfl
          try simp only [List.getElem_toArray, List.getElem_cons_zero, List.getElem_cons_succ, Act.put, List.setIfInBounds_toArray, List.set_cons_zero, List.set_cons_succ]
          refine wpAnyH_take (i := 6) (v := ?_) rfl (by kernel_rfl) (by kernel_rfl) (by kernel_rfl) (fun _ _ _ h => h) (Or.inl ⟨by rfl, ?_⟩) (Below.refl _ _) ?_
          rotate_left
          · intro wS hSw
            go_simp
            try with_reducible rfl
          try simp only [List.getElem_toArray, List.getElem_cons_zero, List.getElem_cons_succ, Act.put, List.setIfInBounds_toArray, List.set_cons_zero, List.set_cons_succ]
          refine wpAnyH_take (i := 7) (v := ?_) rfl (by kernel_rfl) (by kernel_rfl) (by kernel_rfl) (fun _ _ _ h => h) (Or.inl ⟨by rfl, ?_⟩) (Below.refl _ _) ?_
          rotate_left
          · intro wS hSw
            go_simp
            try with_reducible rfl
          try simp only [List.getElem_toArray, List.getElem_cons_zero, List.getElem_cons_succ, Act.put, List.setIfInBounds_toArray, List.set_cons_zero, List.set_cons_succ]
          refine wpAnyH_take (i := 3) (v := ?_) rfl (by kernel_rfl) (by kernel_rfl) (by kernel_rfl) (fun _ _ _ h => h) (Or.inl ⟨by rfl, ?_⟩) (Below.refl _ _) ?_
          rotate_left
          · intro wS hSw
            have hcv := ((hSw.cell (p := ad1.add p) (by exact hg1)).trans hca)
            go_simp
            try with_reducible rfl
          try simp only [List.getElem_toArray, List.getElem_cons_zero, List.getElem_cons_succ, Act.put, List.setIfInBounds_toArray, List.set_cons_zero, List.set_cons_succ]
          refine wpAnyH_take (i := 4) (v := ?_) rfl (by kernel_rfl) (by kernel_rfl) (by kernel_rfl) (fun _ _ _ h => h) (Or.inl ⟨by rfl, ?_⟩) (Below.refl _ _) ?_
          rotate_left
          · intro wS hSw
            have hcv := str_run (HQ1.out.rd.drewN 1) hSw (Nat.le_trans hB hz) HQ1.out.len rc1
            go_simp
            try with_reducible rfl
          try simp only [List.getElem_toArray, List.getElem_cons_zero, List.getElem_cons_succ, Act.put, List.setIfInBounds_toArray, List.set_cons_zero, List.set_cons_succ]
          refine wpAnyH_take (i := 8) (v := ?_) rfl (by kernel_rfl) (by kernel_rfl) (by kernel_rfl) (fun _ _ _ h => h) (Or.inl ⟨by rfl, ?_⟩) (Below.refl _ _) ?_
          rotate_left
          · intro wS hSw
            have hcv := ((hSw.cell (p := ad2.add p) (by exact hg2)).trans hcb)
            go_simp
            try with_reducible rfl
          try simp only [List.getElem_toArray, List.getElem_cons_zero, List.getElem_cons_succ, Act.put, List.setIfInBounds_toArray, List.set_cons_zero, List.set_cons_succ]
          refine wpAnyH_take (i := 9) (v := ?_) rfl (by kernel_rfl) (by kernel_rfl) (by kernel_rfl) (fun _ _ _ h => h) (Or.inl ⟨by rfl, ?_⟩) (Below.refl _ _) ?_
          rotate_left
          · intro wS hSw
            have hcv := str_run (HQ2.out.rd.drewN 1) hSw (Nat.le_trans hB hz) HQ2.out.len rc2
            go_simp
            try with_reducible rfl
          try simp only [List.getElem_toArray, List.getElem_cons_zero, List.getElem_cons_succ, Act.put, List.setIfInBounds_toArray, List.set_cons_zero, List.set_cons_succ]
          refine wpAnyH_take (i := 10) (v := ?_) rfl (by kernel_rfl) (by kernel_rfl) (by kernel_rfl) (fun _ _ _ h => h) (Or.inl ⟨by rfl, ?_⟩) (Below.refl _ _) ?_
          rotate_left
          · intro wS hSw
            go_simp
            try with_reducible rfl
          try simp only [List.getElem_toArray, List.getElem_cons_zero, List.getElem_cons_succ, Act.put, List.setIfInBounds_toArray, List.set_cons_zero, List.set_cons_succ]
          refine wpAnyH_done (by kernel_rfl) ?_ _
          go_wp2
          go_roundw
          case rel => exact ⟨p + 1, by go_num, hlt, HB3.out, HNX⟩
          case measure => simp [intOf]; omega
        · have hbe : (bs1 == bs2) = false := by simp [he]
          have HNE : Hid (bss L ≠ bss M) := fun h => he (by rw [← HG1.out, ← HG2.out]; simp [h])
          clear hI HT1 HT2 he
          go_wp2
          refine wp_region_held_drew (S := (fun wQq => Below (World.heap (wr.drew)).size (wr.drew) wQq)) (by kernel_rfl) (by exact Below.refl _ _) (fun _ => ?_)
          refine wpAnyH_take (i := 0) (v := ?_) rfl (by kernel_rfl) (by kernel_rfl) (by kernel_rfl) (fun _ _ _ h => h) (Or.inl ⟨by rfl, ?_⟩) (Below.refl _ _) ?_
          rotate_left
          · intro wS hSw
            go_simp
            try with_reducible rfl
          try simp only [List.getElem_toArray, List.getElem_cons_zero, List.getElem_cons_succ, Act.put, List.setIfInBounds_toArray, List.set_cons_zero, List.set_cons_succ]
          refine wpAnyH_take (i := 1) (v := ?_) rfl (by kernel_rfl) (by kernel_rfl) (by kernel_rfl) (fun _ _ _ h => h) (Or.inl ⟨by rfl, ?_⟩) (Below.refl _ _) ?_
          rotate_left
          · intro wS hSw
            go_simp
            try with_reducible rfl
          try simp only [List.getElem_toArray, List.getElem_cons_zero, List.getElem_cons_succ, Act.put, List.setIfInBounds_toArray, List.set_cons_zero, List.set_cons_succ]
          refine wpAnyH_take (i := 2) (v := ?_) rfl (by kernel_rfl) (by kernel_rfl) (by kernel_rfl) (fun _ _ _ h => h) (Or.inl ⟨by rfl, ?_⟩) (Below.refl _ _) ?_
          rotate_left
          · intro wS hSw
            go_simp
            try with_reducible rfl
          try simp only [List.getElem_toArray, List.getElem_cons_zero, List.getElem_cons_succ, Act.put, List.setIfInBounds_toArray, List.set_cons_zero, List.set_cons_succ]
          refine wpAnyH_take (i := 5) (v := ?_) rfl (by kernel_rfl) (by kernel_rfl) (by kernel_rfl) (fun _ _ _ h => h) (Or.inl ⟨by rfl, ?_⟩) (Below.refl _ _) ?_
          rotate_left
          · intro wS hSw
            go_simp
            try with_reducible rfl
          try simp only [List.getElem_toArray, List.getElem_cons_zero, List.getElem_cons_succ, Act.put, List.setIfInBounds_toArray, List.set_cons_zero, List.set_cons_succ]
          refine wpAnyH_take (i := 6) (v := ?_) rfl (by kernel_rfl) (by kernel_rfl) (by kernel_rfl) (fun _ _ _ h => h) (Or.inl ⟨by rfl, ?_⟩) (Below.refl _ _) ?_
          rotate_left
          · intro wS hSw
            go_simp
            try with_reducible rfl
          try simp only [List.getElem_toArray, List.getElem_cons_zero, List.getElem_cons_succ, Act.put, List.setIfInBounds_toArray, List.set_cons_zero, List.set_cons_succ]
          refine wpAnyH_take (i := 7) (v := ?_) rfl (by kernel_rfl) (by kernel_rfl) (by kernel_rfl) (fun _ _ _ h => h) (Or.inl ⟨by rfl, ?_⟩) (Below.refl _ _) ?_
          rotate_left
          · intro wS hSw
            go_simp
            try with_reducible rfl
          try simp only [List.getElem_toArray, List.getElem_cons_zero, List.getElem_cons_succ, Act.put, List.setIfInBounds_toArray, List.set_cons_zero, List.set_cons_succ]
          refine wpAnyH_take (i := 3) (v := ?_) rfl (by kernel_rfl) (by kernel_rfl) (by kernel_rfl) (fun _ _ _ h => h) (Or.inl ⟨by rfl, ?_⟩) (Below.refl _ _) ?_
          rotate_left
          · intro wS hSw
            have hcv := ((hSw.cell (p := ad1.add p) (by exact hg1)).trans hca)
            go_simp
            try with_reducible rfl
          try simp only [List.getElem_toArray, List.getElem_cons_zero, List.getElem_cons_succ, Act.put, List.setIfInBounds_toArray, List.set_cons_zero, List.set_cons_succ]
          refine wpAnyH_take (i := 4) (v := ?_) rfl (by kernel_rfl) (by kernel_rfl) (by kernel_rfl) (fun _ _ _ h => h) (Or.inl ⟨by rfl, ?_⟩) (Below.refl _ _) ?_
          rotate_left
          · intro wS hSw
            have hcv := str_run (HQ1.out.rd.drewN 1) hSw (Nat.le_trans hB hz) HQ1.out.len rc1
            go_simp
            try with_reducible rfl
          try simp only [List.getElem_toArray, List.getElem_cons_zero, List.getElem_cons_succ, Act.put, List.setIfInBounds_toArray, List.set_cons_zero, List.set_cons_succ]
          refine wpAnyH_take (i := 8) (v := ?_) rfl (by kernel_rfl) (by kernel_rfl) (by kernel_rfl) (fun _ _ _ h => h) (Or.inl ⟨by rfl, ?_⟩) (Below.refl _ _) ?_
          rotate_left
          · intro wS hSw
            have hcv := ((hSw.cell (p := ad2.add p) (by exact hg2)).trans hcb)
            go_simp
            try with_reducible rfl
          try simp only [List.getElem_toArray, List.getElem_cons_zero, List.getElem_cons_succ, Act.put, List.setIfInBounds_toArray, List.set_cons_zero, List.set_cons_succ]
          refine wpAnyH_take (i := 9) (v := ?_) rfl (by kernel_rfl) (by kernel_rfl) (by kernel_rfl) (fun _ _ _ h => h) (Or.inl ⟨by rfl, ?_⟩) (Below.refl _ _) ?_
          rotate_left
          · intro wS hSw
            have hcv := str_run (HQ2.out.rd.drewN 1) hSw (Nat.le_trans hB hz) HQ2.out.len rc2
            go_simp
            try with_reducible rfl
          try simp only [List.getElem_toArray, List.getElem_cons_zero, List.getElem_cons_succ, Act.put, List.setIfInBounds_toArray, List.set_cons_zero, List.set_cons_succ]
          refine wpAnyH_take (i := 10) (v := ?_) rfl (by kernel_rfl) (by kernel_rfl) (by kernel_rfl) (fun _ _ _ h => h) (Or.inl ⟨by rfl, ?_⟩) (Below.refl _ _) ?_
          rotate_left
          · intro wS hSw
            go_simp
            try with_reducible rfl
          try simp only [List.getElem_toArray, List.getElem_cons_zero, List.getElem_cons_succ, Act.put, List.setIfInBounds_toArray, List.set_cons_zero, List.set_cons_succ]
          refine wpAnyH_done (by kernel_rfl) ?_ _
          go_wp2
          go_ret
          exact ⟨⟨false, rfl, by simpa using HNE.out⟩, HB3.out⟩
      · obtain rfl : p = n1 := by omega
        have HA1 : Hid ((bss L).take p = bss L) := (show _ = _ from List.take_of_length_le (by simp [bss, HN1.out]))
        have HA2 : Hid ((bss M).take p = bss M) := (show _ = _ from List.take_of_length_le (by simp [bss, HN2.out]))
        rw [HA1.out, HA2.out] at hI
        go_wp2
        go_ret
        exact ⟨⟨true, rfl, by simpa using hI.out⟩, HB.out⟩
  · have hno : ((n1 : Int) != (n2 : Int)) = true := by rw [bne_iff_ne]; omega
    have HNE : Hid (bss L ≠ bss M) := fun h => hne (by have := congrArg List.length h; simp [bss] at this; omega)
    clear hr1 hr2 hR1 hR2 hn1 hn2
    go_enter Try.func16, Try.ntmps16
    go_wp2
    go_ret
    exact ⟨⟨false, rfl, by simpa using HNE.out⟩, Below.refl _ _⟩
end Cib
