/- What the document gets of a sector whose sum is right: contract. -/
import Derived.Test.YtpkpdamdclafjaaShdZ
import Derived.Deep.RegionHeld
set_option linter.unusedVariables false
set_option linter.unusedSimpArgs false
set_option maxRecDepth 40000
namespace Shd
theorem at_one {b : List UInt8} {i : Nat} (h : i < b.length) : at_ b i 1 = b[i].toNat := by
  unfold at_
  rw [List.drop_eq_getElem_cons h]
  simp only [List.take_succ_cons, List.take_zero, Num.leN, Nat.mul_zero, Nat.add_zero]
theorem at_two {b : List UInt8} {i : Nat} (h : i + 1 < b.length) : at_ b i 2 = b[i].toNat + 256 * b[i + 1].toNat := by
  unfold at_
  rw [List.drop_eq_getElem_cons (by omega : i < b.length), List.drop_eq_getElem_cons h]
  simp only [List.take_succ_cons, List.take_zero, Num.leN, Nat.mul_zero, Nat.add_zero]
end Shd
namespace Cib
open Go Go.RowKit Go.Proofs

section
variable {P : Program}
theorem wp_allocAs {o : Oper} {a : Act} {w : World} {K : Act → World → Prop} {Q : Exit → Act → World → Prop} (t : TypeId) (ho : o.op = .alloc t) (Z : Array Value)
    (hz : (P.info? t).map (·.zero) = some (some (.agg Z))) (h : K (a.put o.dst (.pointer (some ⟨w.heap.size, 0, none⟩))) (w.alloc (.cells Z t))) : o.wp P a w K Q := by
  obtain ⟨i, hi, hzz⟩ := Option.map_eq_some_iff.1 hz
  have hzv : (zeroValue t).run P w = .ok (.agg Z) w := by simp [zeroValue, typeInfo, hi, hzz]
  unfold Oper.wp execOp
  simp only [ho]
  go_simp
  exact h
theorem exec_build {o : Oper} {a : Act} {w : World} (t : TypeId) (parts : Array (Nat × Operand)) (ho : o.op = .build t parts) (cells : Array Value) {l : List (Nat × Value)} (hb : P.built t l = some cells)
    (hl : (parts.map fun (i, x) => (i, a.eval x)).toList = l) : (execOp a.eval o).run P w = .ok (.value (.agg cells)) w := by
  unfold execOp
  simp only [ho, Sem.run_bind]
  rw [run_build w t _ cells (by rw [hl]; exact hb)]
  rfl
end
theorem shdBuilt5 (a b c d e : Nat) : Try.prog.built 26 [(0, .int .u8 (a : Int)), (1, .int .u8 (b : Int)), (2, .int .u16 (c : Int)), (3, .int .u64 (d : Int)), (4, .int .u16 (e : Int))] = some (shC ⟨a, b, c, d, e, List.replicate 44 0⟩) := by kernel_rfl
theorem shC_set (a b c d e : Nat) (l : List UInt8) (k : Nat) (z : UInt8) : (shC ⟨a, b, c, d, e, l⟩).setIfInBounds (5 + k) (bv z) = shC ⟨a, b, c, d, e, l.set k z⟩ := by
  unfold shC
  simp only
  rw [List.setIfInBounds_toArray, List.set_append_right _ _ (by simp)]
  simp [List.map_set]
set_option maxHeartbeats 2000000 in
theorem refGetRest (A : Option Addr) (cap : Nat) (b : List UInt8) (w : World) (B : Nat) (h : Rd w B A (b.map bv)) (hl : b.length = 64) (hcap : 64 ≤ cap) (hcm : cap ≤ maxLen) (hB : B ≤ w.heap.size) (hs : Shd.at_ b 60 4 = (Crc.more 0#32 (b.take 60)).toNat) :
    Calls Try.prog 17 #[.slice A 64 cap] w (GetOut b w) := by
  have HV : Hid (Shd.getS b = if Shd.kindB (Shd.at_ b 0 1) = false ∨ Shd.at_ b 14 2 ≠ 0 then (Shd.nul, 3) else (Shd.readS b, 0)) := by (show _ = _; unfold Shd.getS; rw [if_neg (by omega), if_neg (by rw [hs]; exact fun h => h rfl)])
  have hce : Shd.closed (b.take 60) = b := (Shd.closed_iff hl).2 hs
  have hsl := fun W : World => run_cut_to (P := Try.prog) 28 5 Try.underlying28 sizeByte A 64 cap 60 .i64 (by omega) W
  have hci : (60 : Int) ≤ (cap : Int) := by omega
  have ht : Rd w B A ((b.take 60).map bv) := by rw [List.map_take]; exact h.take 60
  have HTL : Hid ((b.take 60).length = 60) := by (show _ = _; rw [List.length_take]; omega)
  have HO := Lib.hid (shC_one Shd.nul)
  have HS := Lib.hid (shCsize Shd.nul Shd.nul_ok)
  have HZ := Lib.hid shdZero
  have HB := Lib.hid shdBuilt
  have HL := Lib.hid hl
  have HR := Lib.hid h
  have HCL := Lib.hid (fun W (hW : Below w.heap.size w W) => refClosed A cap (b.take 60) W B (ht.below (hW.mono hB)) HTL.out (Nat.le_trans hB hW.size) (by decide))
  rw [hce] at HCL
  have HN2 := Lib.hid (fun W (hW : Below w.heap.size w W) => refNumber A cap b 2 2 W B (h.below (hW.mono hB)) hl (by decide) (by decide) (by decide) (by decide))
  have HN4 := Lib.hid (fun W (hW : Below w.heap.size w W) => refNumber A cap b 4 8 W B (h.below (hW.mono hB)) hl (by decide) (by decide) (by decide) (by decide))
  have HN12 := Lib.hid (fun W (hW : Below w.heap.size w W) => refNumber A cap b 12 2 W B (h.below (hW.mono hB)) hl (by decide) (by decide) (by decide) (by decide))
  obtain ⟨bl, off, rfl, hbl, hcell⟩ := h.spot (by intro e; have := congrArg List.length e; rw [List.length_map, hl] at this; simp at this)
  have HCE : Hid (∀ W, Below w.heap.size w W → ∀ j (hj : j < b.length), W.cell? ⟨bl, off + j, none⟩ = some (.int .u8 (b[j].toNat : Int))) := fun W hW j hj => by
    refine (hW.cell (p := ⟨bl, off + j, none⟩) (by show bl < _; omega)).trans ((hcell j (by rw [List.length_map]; exact hj)).trans ?_)
    rw [List.getElem_map]
    rfl
  have HA0 : Hid (Shd.at_ b 0 1 = b[0].toNat) := Shd.at_one (by omega)
  have HA1 : Hid (Shd.at_ b 1 1 = b[1].toNat) := Shd.at_one (by omega)
  have HA14 : Hid (Shd.at_ b 14 2 = b[14].toNat + 256 * b[15].toNat) := Shd.at_two (by omega)
  have HR0 : Hid (Shd.readS b = ⟨Shd.at_ b 0 1, Shd.at_ b 1 1, Shd.at_ b 2 2, Shd.at_ b 4 8, Shd.at_ b 12 2, (b.drop 16).take 44⟩) := rfl
  have h14 := Shd.at_lt b 2 2
  have h16 := Shd.at_lt b 12 2
  have HRO := Lib.hid (Shd.readS_ok hl)
  change _ < 65536 at h14 h16
  rw [HA0.out, HA1.out] at HR0
  rw [HA0.out, HA14.out] at HV
  unfold GetOut
  clear hs h ht hce hcell
  obtain ⟨Z, HZN⟩ : ∃ Z, Hid (shC Shd.nul = Z) := ⟨_, rfl⟩
  rw [HZN.out] at HO HS HZ HB
  go_enter Try.func17, Try.ntmps17
  go_wp2_with (refine wpList_allocAs rfl 26 rfl Z HZ.out ?_)
  have hb1 : Below w.heap.size w (w.alloc (.cells Z 26)) := (Below.refl _ _).alloc (Nat.le_refl _) _
  have hv1 := Blk.new w 26 Z
  generalize w.alloc (.cells Z 26) = w1 at *
  refine wp_region_held_drew (S := (fun w' => Below (World.heap (w1.drew)).size (w1.drew) w')) (by kernel_rfl) (by exact Below.refl _ _) (fun _ => ?_)
  refine wpAnyH_take (i := 0) (v := ?_) rfl (by kernel_rfl) (by kernel_rfl) (by kernel_rfl) (fun _ _ _ h => h) (Or.inl ⟨by rfl, ?_⟩) (Below.refl _ _) ?_
  rotate_left
  · intro wS hSw
    go_simp
    try with_reducible rfl
  try simp only [List.getElem_toArray, List.getElem_cons_zero, List.getElem_cons_succ, Act.put, List.setIfInBounds_toArray, List.set_cons_zero, List.set_cons_succ]
  refine wpAnyH_take (i := 1) (v := ?_) rfl (by kernel_rfl) (by kernel_rfl) (by kernel_rfl) (fun _ _ _ h => h) (Or.inl ⟨by rfl, ?_⟩) (Below.refl _ _) ?_
  rotate_left
  · intro wS hSw
    go_simp
    try with_reducible rfl
  try simp only [List.getElem_toArray, List.getElem_cons_zero, List.getElem_cons_succ, Act.put, List.setIfInBounds_toArray, List.set_cons_zero, List.set_cons_succ]
  refine wpAnyH_take (i := 4) (v := ?_) rfl (by kernel_rfl) (by kernel_rfl) (by kernel_rfl) (fun _ _ _ h => h) (Or.inl ⟨by rfl, ?_⟩) (Below.refl _ _) ?_
  rotate_left
  · intro wS hSw
    go_simp
    try with_reducible rfl
  try simp only [List.getElem_toArray, List.getElem_cons_zero, List.getElem_cons_succ, Act.put, List.setIfInBounds_toArray, List.set_cons_zero, List.set_cons_succ]
  refine wpAnyH_take (i := 5) (v := ?_) rfl (by kernel_rfl) (by kernel_rfl) (by kernel_rfl) (fun _ _ _ h => h) (Or.inl ⟨by rfl, ?_⟩) (Below.refl _ _) ?_
  rotate_left
  · intro wS hSw
    have hcv := str_run ((HR.out.below (hb1.mono hB)).drew) hSw (Nat.le_trans hB hb1.size) HL.out cap
    go_simp
    try with_reducible rfl
  try simp only [List.getElem_toArray, List.getElem_cons_zero, List.getElem_cons_succ, Act.put, List.setIfInBounds_toArray, List.set_cons_zero, List.set_cons_succ]
  refine wpAnyH_ready (rs := [2]) (by kernel_rfl) (by simp) ?_
  refine AllReadyH.cons rfl (fun K hK => ?_) AllReadyH.nil
  go_simp
  refine (HCL.out _ (below_drewN hb1 1)).mono ?_
  rintro e w2 ⟨A2, n2, c2, rfl, hn2, ho2, hb2⟩
  have HNN := Lib.hid hn2
  clear hn2
  have hr2 := Rd.of_own ho2
  have hv2 := (hv1.drewN 1).below hb2 (by exact hv1.lt)
  replace hb1 := (below_drewN hb1 1).via hb2
  refine hK.out _ _ hb2 (fun _ => ?_)
  clear hK K
  try simp only [List.getElem_toArray, List.getElem_cons_zero, List.getElem_cons_succ, Act.put, List.setIfInBounds_toArray, List.set_cons_zero, List.set_cons_succ]
  refine wpAnyH_strong (S2 := fun w' => Below (World.heap w2).size w2 w') (fun _ h => Below.via hb2 h) ?_
  refine wpAnyH_take (i := 3) (v := ?_) rfl (by kernel_rfl) (by kernel_rfl) (by kernel_rfl) (fun _ _ _ h => h) (Or.inl ⟨by rfl, ?_⟩) (Below.refl _ _) ?_
  rotate_left
  · intro wS hSw
    have hcv := str_run hr2 hSw (Nat.le_refl _) HNN.out c2
    go_simp
    try with_reducible rfl
  try simp only [List.getElem_toArray, List.getElem_cons_zero, List.getElem_cons_succ, Act.put, List.setIfInBounds_toArray, List.set_cons_zero, List.set_cons_succ]
  refine wpAnyH_take (i := 6) (v := ?_) rfl (by kernel_rfl) (by kernel_rfl) (by kernel_rfl) (fun _ _ _ h => h) (Or.inl ⟨by rfl, ?_⟩) (Below.refl _ _) ?_
  rotate_left
  · intro wS hSw
    go_simp
    try with_reducible rfl
  try simp only [List.getElem_toArray, List.getElem_cons_zero, List.getElem_cons_succ, Act.put, List.setIfInBounds_toArray, List.set_cons_zero, List.set_cons_succ]
  refine wpAnyH_done (by kernel_rfl) ?_ _
  clear hr2 ho2 hb2 hv1 hsl hci HNN HCL
  have hc0 := HCE.out w2 hb1 0 (by omega)
  have hc1 := HCE.out w2 hb1 1 (by omega)
  have hc14 := HCE.out w2 hb1 14 (by omega)
  have hc15 := HCE.out w2 hb1 15 (by omega)
  rw [Nat.add_zero] at hc0
  have HC0 := Lib.hid hc0
  have HC1 := Lib.hid hc1
  generalize b[0] = y0 at *
  generalize b[1] = y1 at *
  generalize b[14] = y14 at *
  generalize b[15] = y15 at *
  by_cases hk : Shd.kindB y0.toNat = true
  · obtain ⟨k1, k2⟩ := kindB_of hk
    have hd : decide (4 < (y0.toNat : Int)) = false := by simp; omega
    have hd2 : decide ((y0.toNat : Int) < 1) = false := by simp; omega
    by_cases h1 : y14.toNat = 0
    · by_cases h2 : y15.toNat = 0
      · have e1 : ((y14.toNat : Int) != 0) = false := by rw [h1]; rfl
        have e2 : ((y15.toNat : Int) != 0) = false := by rw [h2]; rfl
        have HW : Hid (Shd.getS b = (Shd.readS b, 0)) := HV.out.trans (if_neg (by rw [hk, h1, h2]; simp))
        clear HV h1 h2 hk
        have HB5 := Lib.hid (shdBuilt5 y0.toNat y1.toNat (Shd.at_ b 2 2) (Shd.at_ b 4 8) (Shd.at_ b 12 2))
        have hFO := Lib.hid (shC_one ⟨y0.toNat, y1.toNat, Shd.at_ b 2 2, Shd.at_ b 4 8, Shd.at_ b 12 2, List.replicate 44 0⟩)
        have hFS : Hid ((shC ⟨y0.toNat, y1.toNat, Shd.at_ b 2 2, Shd.at_ b 4 8, Shd.at_ b 12 2, List.replicate 44 0⟩).size = 49) := by (show _ = _; simp [shC])
        have HSET := Lib.hid (fun l k z => shC_set y0.toNat y1.toNat (Shd.at_ b 2 2) (Shd.at_ b 4 8) (Shd.at_ b 12 2) l k z)
        have HSZ := Lib.hid (fun l => (show (shC ⟨y0.toNat, y1.toNat, Shd.at_ b 2 2, Shd.at_ b 4 8, Shd.at_ b 12 2, l⟩).size = 5 + l.length by simp [shC]; omega))
        generalize Shd.at_ b 2 2 = v2 at *
        generalize Shd.at_ b 4 8 = v3 at *
        generalize Shd.at_ b 12 2 = v4 at *
        have hbl2 : bl < w2.heap.size := by have := hb1.size; omega
        obtain ⟨F, hF⟩ : ∃ F, Hid (shC ⟨y0.toNat, y1.toNat, v2, v3, v4, List.replicate 44 0⟩ = F) := ⟨_, rfl⟩
        rw [hF.out] at HB5 hFO hFS
        have hz1 := hb1.size
        have hw2 : IntKind.u16.wrap (v2 : Int) = (v2 : Int) := by rw [IntKind.wrap_u16]; omega
        have hw4 : IntKind.u16.wrap (v4 : Int) = (v4 : Int) := by rw [IntKind.wrap_u16]; omega
        go_upto_region 7 with fail
        clear hc14 hc15 hc0 hc1 hd hd2 e1 e2
        go_cut [4] (fun p wx => p = .pointer (some ⟨w2.heap.size, 0, none⟩) ∧ wx = (w2.drew.alloc (.cells Z 26)).setRow w2.heap.size F)
        case first =>
          refine wp_region_held_drew (S := (fun w' => Below (World.heap (w2.drew)).size (w2.drew) w')) (by kernel_rfl) (by exact Below.refl _ _) (fun _ => ?_)
          refine wpAnyH_take (i := 0) (v := ?_) rfl (by kernel_rfl) (by kernel_rfl) (by kernel_rfl) (fun _ _ _ h => h) (Or.inl ⟨by rfl, ?_⟩) (Below.refl _ _) ?_
          rotate_left
          · intro wS hSw
            go_simp
            try with_reducible rfl
          try simp only [List.getElem_toArray, List.getElem_cons_zero, List.getElem_cons_succ, Act.put, List.setIfInBounds_toArray, List.set_cons_zero, List.set_cons_succ]
          refine wpAnyH_take (i := 1) (v := ?_) rfl (by kernel_rfl) (by kernel_rfl) (by kernel_rfl) (fun _ _ _ h => h) (Or.inl ⟨by rfl, ?_⟩) (Below.refl _ _) ?_
          rotate_left
          · intro wS hSw
            go_simp
            try with_reducible rfl
          try simp only [List.getElem_toArray, List.getElem_cons_zero, List.getElem_cons_succ, Act.put, List.setIfInBounds_toArray, List.set_cons_zero, List.set_cons_succ]
          refine wpAnyH_take (i := 3) (v := ?_) rfl (by kernel_rfl) (by kernel_rfl) (by kernel_rfl) (fun _ _ _ h => h) (Or.inl ⟨by rfl, ?_⟩) (Below.refl _ _) ?_
          rotate_left
          · intro wS hSw
            go_simp
            try with_reducible rfl
          try simp only [List.getElem_toArray, List.getElem_cons_zero, List.getElem_cons_succ, Act.put, List.setIfInBounds_toArray, List.set_cons_zero, List.set_cons_succ]
          refine wpAnyH_take (i := 4) (v := ?_) rfl (by kernel_rfl) (by kernel_rfl) (by kernel_rfl) (fun _ _ _ h => h) (Or.inl ⟨by rfl, ?_⟩) (Below.refl _ _) ?_
          rotate_left
          · intro wS hSw
            go_simp
            try with_reducible rfl
          try simp only [List.getElem_toArray, List.getElem_cons_zero, List.getElem_cons_succ, Act.put, List.setIfInBounds_toArray, List.set_cons_zero, List.set_cons_succ]
          refine wpAnyH_take (i := 6) (v := ?_) rfl (by kernel_rfl) (by kernel_rfl) (by kernel_rfl) (fun _ _ _ h => h) (Or.inl ⟨by rfl, ?_⟩) (Below.refl _ _) ?_
          rotate_left
          · intro wS hSw
            go_simp
            try with_reducible rfl
          try simp only [List.getElem_toArray, List.getElem_cons_zero, List.getElem_cons_succ, Act.put, List.setIfInBounds_toArray, List.set_cons_zero, List.set_cons_succ]
          refine wpAnyH_take (i := 9) (v := ?_) rfl (by kernel_rfl) (by kernel_rfl) (by kernel_rfl) (fun _ _ _ h => h) (Or.inl ⟨by rfl, ?_⟩) (Below.refl _ _) ?_
          rotate_left
          · intro wS hSw
            go_simp
            try with_reducible rfl
          try simp only [List.getElem_toArray, List.getElem_cons_zero, List.getElem_cons_succ, Act.put, List.setIfInBounds_toArray, List.set_cons_zero, List.set_cons_succ]
          refine wpAnyH_take (i := 11) (v := ?_) rfl (by kernel_rfl) (by kernel_rfl) (by kernel_rfl) (fun _ _ _ h => h) (Or.inl ⟨by rfl, ?_⟩) (Below.refl _ _) ?_
          rotate_left
          · intro wS hSw
            go_simp
            try with_reducible rfl
          try simp only [List.getElem_toArray, List.getElem_cons_zero, List.getElem_cons_succ, Act.put, List.setIfInBounds_toArray, List.set_cons_zero, List.set_cons_succ]
          refine wpAnyH_take (i := 2) (v := ?_) rfl (by kernel_rfl) (by kernel_rfl) (by kernel_rfl) (fun _ _ _ h => h) (Or.inl ⟨by rfl, ?_⟩) (Below.refl _ _) ?_
          rotate_left
          · intro wS hSw
            have hcv := ((hSw.cell (p := ⟨bl, off, none⟩) (by exact hbl2)).trans HC0.out)
            go_simp
            try with_reducible rfl
          try simp only [List.getElem_toArray, List.getElem_cons_zero, List.getElem_cons_succ, Act.put, List.setIfInBounds_toArray, List.set_cons_zero, List.set_cons_succ]
          refine wpAnyH_take (i := 5) (v := ?_) rfl (by kernel_rfl) (by kernel_rfl) (by kernel_rfl) (fun _ _ _ h => h) (Or.inl ⟨by rfl, ?_⟩) (Below.refl _ _) ?_
          rotate_left
          · intro wS hSw
            have hcv := ((hSw.cell (p := ⟨bl, off + 1, none⟩) (by exact hbl2)).trans HC1.out)
            go_simp
            try with_reducible rfl
          try simp only [List.getElem_toArray, List.getElem_cons_zero, List.getElem_cons_succ, Act.put, List.setIfInBounds_toArray, List.set_cons_zero, List.set_cons_succ]
          refine wpAnyH_ready (rs := [7, 15]) (by kernel_rfl) (by simp) ?_
          refine AllReadyH.cons rfl (fun K hK => ?_) (AllReadyH.cons rfl (fun K hK => ?_) AllReadyH.nil)
          · go_simp
            refine (HN2.out _ (by first | exact below_drewN hb1 1 | exact (below_drewN hb1 1).alloc hz1 _)).mono ?_
            rintro _ _ ⟨rfl, rfl⟩
            refine hK.out _ _ (Below.refl _ _) (fun _ => ?_)
            clear hK K
            try simp only [List.getElem_toArray, List.getElem_cons_zero, List.getElem_cons_succ, Act.put, List.setIfInBounds_toArray, List.set_cons_zero, List.set_cons_succ]
            refine wpAnyH_take (i := 8) (v := ?_) rfl (by kernel_rfl) (by kernel_rfl) (by kernel_rfl) (fun _ _ _ h => h) (Or.inl ⟨by rfl, ?_⟩) (Below.refl _ _) ?_
            rotate_left
            · intro wS hSw
              have hcv := trivial
              go_simp
              try with_reducible rfl
            try simp only [List.getElem_toArray, List.getElem_cons_zero, List.getElem_cons_succ, Act.put, List.setIfInBounds_toArray, List.set_cons_zero, List.set_cons_succ]
            refine wpAnyH_ready (rs := [10, 15]) (by kernel_rfl) (by simp) ?_
            refine AllReadyH.cons rfl (fun K hK => ?_) (AllReadyH.cons rfl (fun K hK => ?_) AllReadyH.nil)
            · go_simp
              refine (HN4.out _ (by first | exact below_drewN hb1 1 | exact (below_drewN hb1 1).alloc hz1 _)).mono ?_
              rintro _ _ ⟨rfl, rfl⟩
              refine hK.out _ _ (Below.refl _ _) (fun _ => ?_)
              clear hK K
              try simp only [List.getElem_toArray, List.getElem_cons_zero, List.getElem_cons_succ, Act.put, List.setIfInBounds_toArray, List.set_cons_zero, List.set_cons_succ]
              refine wpAnyH_ready (rs := [12, 15]) (by kernel_rfl) (by simp) ?_
              refine AllReadyH.cons rfl (fun K hK => ?_) (AllReadyH.cons rfl (fun K hK => ?_) AllReadyH.nil)
              · go_simp
                refine (HN12.out _ (by first | exact below_drewN hb1 1 | exact (below_drewN hb1 1).alloc hz1 _)).mono ?_
                rintro _ _ ⟨rfl, rfl⟩
                refine hK.out _ _ (Below.refl _ _) (fun _ => ?_)
                clear hK K
                try simp only [List.getElem_toArray, List.getElem_cons_zero, List.getElem_cons_succ, Act.put, List.setIfInBounds_toArray, List.set_cons_zero, List.set_cons_succ]
                refine wpAnyH_take (i := 13) (v := ?_) rfl (by kernel_rfl) (by kernel_rfl) (by kernel_rfl) (fun _ _ _ h => h) (Or.inl ⟨by rfl, ?_⟩) (Below.refl _ _) ?_
                rotate_left
                · intro wS hSw
                  have hcv := trivial
                  go_simp
                  try with_reducible rfl
                try simp only [List.getElem_toArray, List.getElem_cons_zero, List.getElem_cons_succ, Act.put, List.setIfInBounds_toArray, List.set_cons_zero, List.set_cons_succ]
                refine wpAnyH_take (i := 14) (v := ?_) rfl (by kernel_rfl) (by kernel_rfl) (by kernel_rfl) (fun _ _ _ h => h) (Or.inl ⟨by rfl, ?_⟩) (Below.refl _ _) ?_
                rotate_left
                · intro wS hSw
                  refine Eq.trans (exec_build 26 _ (by rfl) F HB5.out (by simp [go_sem])) ?_
                  with_reducible rfl
                try simp only [List.getElem_toArray, List.getElem_cons_zero, List.getElem_cons_succ, Act.put, List.setIfInBounds_toArray, List.set_cons_zero, List.set_cons_succ]
                refine wpAnyH_ready (rs := [15]) (by kernel_rfl) (by simp) ?_
                refine AllReadyH.cons rfl (fun K hK => ?_) AllReadyH.nil
                rw [if_pos (by rfl)]
                refine wp_allocAs 26 rfl Z HZ.out ?_
                refine hK.out _ _ ((Below.refl _ _).alloc (Nat.le_refl _) _) (fun _ => ?_)
                clear hK K
                try simp only [List.getElem_toArray, List.getElem_cons_zero, List.getElem_cons_succ, Act.put, List.setIfInBounds_toArray, List.set_cons_zero, List.set_cons_succ]
                refine wpAnyH_ready (rs := [16]) (by kernel_rfl) (by simp) ?_
                refine AllReadyH.cons rfl (fun K hK => ?_) AllReadyH.nil
                rw [if_pos (by rfl)]
                refine wp_store_row 26 (.tmp 4) (.tmp 55) rfl w2.heap.size F rfl rfl 26 Z (Blk.new w2.drew _ _) (by rw [hFS.out]; exact shdInfo) (by rw [HS.out, hFS.out]) hFO.out ?_
                refine hK.out _ _ (below_setRow ((Below.refl _ _).alloc (Nat.le_refl _) _) (Nat.le_refl _) _) (fun _ => ?_)
                clear hK K
                try simp only [List.getElem_toArray, List.getElem_cons_zero, List.getElem_cons_succ, Act.put, List.setIfInBounds_toArray, List.set_cons_zero, List.set_cons_succ]
                refine wpAnyH_done (by kernel_rfl) ?_ _
                go_wp2_with fail
                go_meet
                exact ⟨rfl, rfl⟩
              · rw [if_pos (by rfl)]
                refine wp_allocAs 26 rfl Z HZ.out ?_
                refine hK.out _ _ ((Below.refl _ _).alloc (Nat.le_refl _) _) (fun _ => ?_)
                clear hK K
                try simp only [List.getElem_toArray, List.getElem_cons_zero, List.getElem_cons_succ, Act.put, List.setIfInBounds_toArray, List.set_cons_zero, List.set_cons_succ]
                refine wpAnyH_ready (rs := [12]) (by kernel_rfl) (by simp) ?_
                refine AllReadyH.cons rfl (fun K hK => ?_) AllReadyH.nil
                go_simp
                refine (HN12.out _ (by first | exact below_drewN hb1 1 | exact (below_drewN hb1 1).alloc hz1 _)).mono ?_
                rintro _ _ ⟨rfl, rfl⟩
                refine hK.out _ _ ((Below.refl _ _).alloc (Nat.le_refl _) _) (fun _ => ?_)
                clear hK K
                try simp only [List.getElem_toArray, List.getElem_cons_zero, List.getElem_cons_succ, Act.put, List.setIfInBounds_toArray, List.set_cons_zero, List.set_cons_succ]
                refine wpAnyH_take (i := 13) (v := ?_) rfl (by kernel_rfl) (by kernel_rfl) (by kernel_rfl) (fun _ _ _ h => h) (Or.inl ⟨by rfl, ?_⟩) ((Below.refl _ _).alloc (Nat.le_refl _) _) ?_
                rotate_left
                · intro wS hSw
                  have hcv := trivial
                  go_simp
                  try with_reducible rfl
                try simp only [List.getElem_toArray, List.getElem_cons_zero, List.getElem_cons_succ, Act.put, List.setIfInBounds_toArray, List.set_cons_zero, List.set_cons_succ]
                refine wpAnyH_take (i := 14) (v := ?_) rfl (by kernel_rfl) (by kernel_rfl) (by kernel_rfl) (fun _ _ _ h => h) (Or.inl ⟨by rfl, ?_⟩) ((Below.refl _ _).alloc (Nat.le_refl _) _) ?_
                rotate_left
                · intro wS hSw
                  refine Eq.trans (exec_build 26 _ (by rfl) F HB5.out (by simp [go_sem])) ?_
                  with_reducible rfl
                try simp only [List.getElem_toArray, List.getElem_cons_zero, List.getElem_cons_succ, Act.put, List.setIfInBounds_toArray, List.set_cons_zero, List.set_cons_succ]
                refine wpAnyH_ready (rs := [16]) (by kernel_rfl) (by simp) ?_
                refine AllReadyH.cons rfl (fun K hK => ?_) AllReadyH.nil
                rw [if_pos (by rfl)]
                refine wp_store_row 26 (.tmp 4) (.tmp 55) rfl w2.heap.size F rfl rfl 26 Z (Blk.new w2.drew _ _) (by rw [hFS.out]; exact shdInfo) (by rw [HS.out, hFS.out]) hFO.out ?_
                refine hK.out _ _ (below_setRow ((Below.refl _ _).alloc (Nat.le_refl _) _) (Nat.le_refl _) _) (fun _ => ?_)
                clear hK K
                try simp only [List.getElem_toArray, List.getElem_cons_zero, List.getElem_cons_succ, Act.put, List.setIfInBounds_toArray, List.set_cons_zero, List.set_cons_succ]
                refine wpAnyH_done (by kernel_rfl) ?_ _
                go_wp2_with fail
                go_meet
                exact ⟨rfl, rfl⟩
            · rw [if_pos (by rfl)]
              refine wp_allocAs 26 rfl Z HZ.out ?_
              refine hK.out _ _ ((Below.refl _ _).alloc (Nat.le_refl _) _) (fun _ => ?_)
              clear hK K
              try simp only [List.getElem_toArray, List.getElem_cons_zero, List.getElem_cons_succ, Act.put, List.setIfInBounds_toArray, List.set_cons_zero, List.set_cons_succ]
              refine wpAnyH_ready (rs := [10]) (by kernel_rfl) (by simp) ?_
              refine AllReadyH.cons rfl (fun K hK => ?_) AllReadyH.nil
              go_simp
              refine (HN4.out _ (by first | exact below_drewN hb1 1 | exact (below_drewN hb1 1).alloc hz1 _)).mono ?_
              rintro _ _ ⟨rfl, rfl⟩
              refine hK.out _ _ ((Below.refl _ _).alloc (Nat.le_refl _) _) (fun _ => ?_)
              clear hK K
              try simp only [List.getElem_toArray, List.getElem_cons_zero, List.getElem_cons_succ, Act.put, List.setIfInBounds_toArray, List.set_cons_zero, List.set_cons_succ]
              refine wpAnyH_ready (rs := [12]) (by kernel_rfl) (by simp) ?_
              refine AllReadyH.cons rfl (fun K hK => ?_) AllReadyH.nil
              go_simp
              refine (HN12.out _ (by first | exact below_drewN hb1 1 | exact (below_drewN hb1 1).alloc hz1 _)).mono ?_
              rintro _ _ ⟨rfl, rfl⟩
              refine hK.out _ _ ((Below.refl _ _).alloc (Nat.le_refl _) _) (fun _ => ?_)
              clear hK K
              try simp only [List.getElem_toArray, List.getElem_cons_zero, List.getElem_cons_succ, Act.put, List.setIfInBounds_toArray, List.set_cons_zero, List.set_cons_succ]
              refine wpAnyH_take (i := 13) (v := ?_) rfl (by kernel_rfl) (by kernel_rfl) (by kernel_rfl) (fun _ _ _ h => h) (Or.inl ⟨by rfl, ?_⟩) ((Below.refl _ _).alloc (Nat.le_refl _) _) ?_
              rotate_left
              · intro wS hSw
                have hcv := trivial
                go_simp
                try with_reducible rfl
              try simp only [List.getElem_toArray, List.getElem_cons_zero, List.getElem_cons_succ, Act.put, List.setIfInBounds_toArray, List.set_cons_zero, List.set_cons_succ]
              refine wpAnyH_take (i := 14) (v := ?_) rfl (by kernel_rfl) (by kernel_rfl) (by kernel_rfl) (fun _ _ _ h => h) (Or.inl ⟨by rfl, ?_⟩) ((Below.refl _ _).alloc (Nat.le_refl _) _) ?_
              rotate_left
              · intro wS hSw
                refine Eq.trans (exec_build 26 _ (by rfl) F HB5.out (by simp [go_sem])) ?_
                with_reducible rfl
              try simp only [List.getElem_toArray, List.getElem_cons_zero, List.getElem_cons_succ, Act.put, List.setIfInBounds_toArray, List.set_cons_zero, List.set_cons_succ]
              refine wpAnyH_ready (rs := [16]) (by kernel_rfl) (by simp) ?_
              refine AllReadyH.cons rfl (fun K hK => ?_) AllReadyH.nil
              rw [if_pos (by rfl)]
              refine wp_store_row 26 (.tmp 4) (.tmp 55) rfl w2.heap.size F rfl rfl 26 Z (Blk.new w2.drew _ _) (by rw [hFS.out]; exact shdInfo) (by rw [HS.out, hFS.out]) hFO.out ?_
              refine hK.out _ _ (below_setRow ((Below.refl _ _).alloc (Nat.le_refl _) _) (Nat.le_refl _) _) (fun _ => ?_)
              clear hK K
              try simp only [List.getElem_toArray, List.getElem_cons_zero, List.getElem_cons_succ, Act.put, List.setIfInBounds_toArray, List.set_cons_zero, List.set_cons_succ]
              refine wpAnyH_done (by kernel_rfl) ?_ _
              go_wp2_with fail
              go_meet
              exact ⟨rfl, rfl⟩
          · rw [if_pos (by rfl)]
            refine wp_allocAs 26 rfl Z HZ.out ?_
            refine hK.out _ _ ((Below.refl _ _).alloc (Nat.le_refl _) _) (fun _ => ?_)
            clear hK K
            try simp only [List.getElem_toArray, List.getElem_cons_zero, List.getElem_cons_succ, Act.put, List.setIfInBounds_toArray, List.set_cons_zero, List.set_cons_succ]
            refine wpAnyH_ready (rs := [7]) (by kernel_rfl) (by simp) ?_
            refine AllReadyH.cons rfl (fun K hK => ?_) AllReadyH.nil
            go_simp
            refine (HN2.out _ (by first | exact below_drewN hb1 1 | exact (below_drewN hb1 1).alloc hz1 _)).mono ?_
            rintro _ _ ⟨rfl, rfl⟩
            refine hK.out _ _ ((Below.refl _ _).alloc (Nat.le_refl _) _) (fun _ => ?_)
            clear hK K
            try simp only [List.getElem_toArray, List.getElem_cons_zero, List.getElem_cons_succ, Act.put, List.setIfInBounds_toArray, List.set_cons_zero, List.set_cons_succ]
            refine wpAnyH_take (i := 8) (v := ?_) rfl (by kernel_rfl) (by kernel_rfl) (by kernel_rfl) (fun _ _ _ h => h) (Or.inl ⟨by rfl, ?_⟩) ((Below.refl _ _).alloc (Nat.le_refl _) _) ?_
            rotate_left
            · intro wS hSw
              have hcv := trivial
              go_simp
              try with_reducible rfl
            try simp only [List.getElem_toArray, List.getElem_cons_zero, List.getElem_cons_succ, Act.put, List.setIfInBounds_toArray, List.set_cons_zero, List.set_cons_succ]
            refine wpAnyH_ready (rs := [10]) (by kernel_rfl) (by simp) ?_
            refine AllReadyH.cons rfl (fun K hK => ?_) AllReadyH.nil
            go_simp
            refine (HN4.out _ (by first | exact below_drewN hb1 1 | exact (below_drewN hb1 1).alloc hz1 _)).mono ?_
            rintro _ _ ⟨rfl, rfl⟩
            refine hK.out _ _ ((Below.refl _ _).alloc (Nat.le_refl _) _) (fun _ => ?_)
            clear hK K
            try simp only [List.getElem_toArray, List.getElem_cons_zero, List.getElem_cons_succ, Act.put, List.setIfInBounds_toArray, List.set_cons_zero, List.set_cons_succ]
            refine wpAnyH_ready (rs := [12]) (by kernel_rfl) (by simp) ?_
            refine AllReadyH.cons rfl (fun K hK => ?_) AllReadyH.nil
            go_simp
            refine (HN12.out _ (by first | exact below_drewN hb1 1 | exact (below_drewN hb1 1).alloc hz1 _)).mono ?_
            rintro _ _ ⟨rfl, rfl⟩
            refine hK.out _ _ ((Below.refl _ _).alloc (Nat.le_refl _) _) (fun _ => ?_)
            clear hK K
            try simp only [List.getElem_toArray, List.getElem_cons_zero, List.getElem_cons_succ, Act.put, List.setIfInBounds_toArray, List.set_cons_zero, List.set_cons_succ]
            refine wpAnyH_take (i := 13) (v := ?_) rfl (by kernel_rfl) (by kernel_rfl) (by kernel_rfl) (fun _ _ _ h => h) (Or.inl ⟨by rfl, ?_⟩) ((Below.refl _ _).alloc (Nat.le_refl _) _) ?_
            rotate_left
            · intro wS hSw
              have hcv := trivial
              go_simp
              try with_reducible rfl
            try simp only [List.getElem_toArray, List.getElem_cons_zero, List.getElem_cons_succ, Act.put, List.setIfInBounds_toArray, List.set_cons_zero, List.set_cons_succ]
            refine wpAnyH_take (i := 14) (v := ?_) rfl (by kernel_rfl) (by kernel_rfl) (by kernel_rfl) (fun _ _ _ h => h) (Or.inl ⟨by rfl, ?_⟩) ((Below.refl _ _).alloc (Nat.le_refl _) _) ?_
            rotate_left
            · intro wS hSw
              refine Eq.trans (exec_build 26 _ (by rfl) F HB5.out (by simp [go_sem])) ?_
              with_reducible rfl
            try simp only [List.getElem_toArray, List.getElem_cons_zero, List.getElem_cons_succ, Act.put, List.setIfInBounds_toArray, List.set_cons_zero, List.set_cons_succ]
            refine wpAnyH_ready (rs := [16]) (by kernel_rfl) (by simp) ?_
            refine AllReadyH.cons rfl (fun K hK => ?_) AllReadyH.nil
            rw [if_pos (by rfl)]
            refine wp_store_row 26 (.tmp 4) (.tmp 55) rfl w2.heap.size F rfl rfl 26 Z (Blk.new w2.drew _ _) (by rw [hFS.out]; exact shdInfo) (by rw [HS.out, hFS.out]) hFO.out ?_
            refine hK.out _ _ (below_setRow ((Below.refl _ _).alloc (Nat.le_refl _) _) (Nat.le_refl _) _) (fun _ => ?_)
            clear hK K
            try simp only [List.getElem_toArray, List.getElem_cons_zero, List.getElem_cons_succ, Act.put, List.setIfInBounds_toArray, List.set_cons_zero, List.set_cons_succ]
            refine wpAnyH_done (by kernel_rfl) ?_ _
            go_wp2_with fail
            go_meet
            exact ⟨rfl, rfl⟩
        case rest =>
          obtain ⟨rfl, hwc⟩ := hcut
          have hbc : Below w.heap.size w wc := by
            rw [hwc]
            exact below_setRow ((below_drewN hb1 1).alloc hz1 _) hz1 F
          have hlt2 := hv2.lt
          have hrc : Blk wc w.heap.size 26 Z := by
            rw [hwc]
            exact ((hv2.drewN 1).alloc _).rowFar (by omega) F
          have hgc : Blk wc w2.heap.size 26 F := by
            rw [hwc]
            exact (Blk.new w2.drew 26 Z).row F
          obtain ⟨bd, HBD⟩ : ∃ bd, Hid ((b.drop 16).take 44 = bd) := ⟨_, rfl⟩
          have HBL : Hid (bd.length = 44) := by (show _ = _; rw [← HBD.out, List.length_take, List.length_drop]; omega)
          have HBG : Hid (∀ k (h : k < bd.length) (h' : 16 + k < b.length), bd[k] = b[16 + k]) := fun k h h' => by
            have := HBD.out
            subst this
            simp
          rw [HBD.out] at HR0
          rw [← hF.out, show List.replicate 44 (0 : UInt8) = fillB bd 0 by rw [fillB_zero, HBL.out]] at hgc
          clear hwc hw2 hw4 HB5 hFO hFS hF HN2 HN4 HN12 hv2 HC0 HC1 HBD
          generalize w2.heap.size = g at *
          go_wp2
          go_loopw [5] (fun i wr => ∃ k : Nat, k ≤ 44 ∧ i = .int .i64 k ∧ Below w.heap.size w wr ∧ Blk wr w.heap.size 26 Z ∧ Blk wr g 26 (shC ⟨y0.toNat, y1.toNat, v2, v3, v4, fillB bd k⟩)) (fun i _ => 44 - (intOf i).toNat)
          case atStart => exact ⟨0, Nat.zero_le _, rfl, hbc, hrc, hgc⟩
          case round =>
            clear hbc hrc hgc
            obtain ⟨k, hk, rfl, hb, hr, hg⟩ := hrel
            by_cases hlt : k < 44
            · have hlb : k < bd.length := by rw [HBL.out]; exact hlt
              have hcb := HCE.out wr hb (16 + k) (by omega)
              have HFS := Lib.hid (fillB_set bd k hlb)
              rw [← HBG.out k hlb (by omega)] at hcb
              generalize bd[k] = z at *
              have hfr := hg.frozen (5 + k)
              obtain ⟨x0, hx0⟩ : ∃ x, wr.cell? ⟨g, 5 + k, none⟩ = some x := ⟨_, (hg.cell (5 + k)).trans (Array.getElem?_eq_getElem (by rw [HSZ.out, fillB_length _ _ (by omega)]; omega))⟩
              have hset := hg.set (5 + k) (bv z)
              rw [HSET.out, HFS.out] at hset
              have HST := Lib.hid hset
              clear hset hg
              go_wp2
              exact ⟨⟨k + 1, by omega, by go_num, hb.setCell (by show w.heap.size ≤ g; omega) _, hr.far (p := ⟨g, 5 + k, none⟩) (by show w.heap.size ≠ g; omega) _, HST.out⟩, by simp [intOf]; omega⟩
            · obtain rfl : k = 44 := by omega
              rw [← HBL.out, fillB_all, ← HR0.out] at hg
              have HFO := Lib.hid (shC_one (Shd.readS b))
              have HFS := Lib.hid (shCsize _ HRO.out)
              obtain ⟨E, hE⟩ : ∃ E, Hid (shC (Shd.readS b) = E) := ⟨_, rfl⟩
              rw [hE.out] at hg HFO HFS
              go_wp2_with (first | (refine wpList_load_row rfl 26 (.tmp 4) rfl g rfl 26 E (0, 0) _ hg Try.underlying26 rfl (by rw [HFS.out]; exact shdInfo) ?_) | (refine wpList_store_row rfl 26 (.tmp 2) (.tmp 68) rfl w.heap.size E rfl rfl 26 Z hr (by rw [HFS.out]; exact shdInfo) (by rw [HS.out, HFS.out]) HFO.out ?_))
              refine bodyPost_ret (results_cell_row2 (g := w.heap.size) (te := 26) (cs := E) (fr := (0, 0)) rfl _ _ _ rfl (hr.row E) Try.underlying26 rfl (by rw [HFS.out]; exact shdInfo)) rfl ⟨by rw [HW.out, hE.out]; rfl, below_setRow hb (Nat.le_refl _) E⟩
      · have e1 : ((y14.toNat : Int) != 0) = false := by rw [h1]; rfl
        have e2 : ((y15.toNat : Int) != 0) = true := by rw [bne_iff_ne]; omega
        have HW : Hid (Shd.getS b = (Shd.nul, 3)) := HV.out.trans (if_pos (.inr (by omega)))
        clear HV h1 h2 hk
        go_wp2_with (first | (refine wpList_buildAs rfl 26 _ rfl Z HB.out (by simp) ?_) | (refine wpList_store_row rfl 26 _ _ rfl w.heap.size Z rfl rfl 26 Z hv2 (by rw [HS.out]; exact shdInfo) rfl HO.out ?_))
        refine bodyPost_ret (results_cell_row2 (g := w.heap.size) (te := 26) (cs := Z) (fr := (0, 0)) rfl _ _ _ rfl (hv2.row Z) Try.underlying26 rfl (by rw [HS.out]; exact shdInfo)) rfl ⟨by rw [HW.out, HZN.out]; rfl, below_setRow hb1 (Nat.le_refl _) Z⟩
    · have e1 : ((y14.toNat : Int) != 0) = true := by rw [bne_iff_ne]; omega
      have HW : Hid (Shd.getS b = (Shd.nul, 3)) := HV.out.trans (if_pos (.inr (by omega)))
      clear HV h1 hk
      go_wp2_with (first | (refine wpList_buildAs rfl 26 _ rfl Z HB.out (by simp) ?_) | (refine wpList_store_row rfl 26 _ _ rfl w.heap.size Z rfl rfl 26 Z hv2 (by rw [HS.out]; exact shdInfo) rfl HO.out ?_))
      refine bodyPost_ret (results_cell_row2 (g := w.heap.size) (te := 26) (cs := Z) (fr := (0, 0)) rfl _ _ _ rfl (hv2.row Z) Try.underlying26 rfl (by rw [HS.out]; exact shdInfo)) rfl ⟨by rw [HW.out, HZN.out]; rfl, below_setRow hb1 (Nat.le_refl _) Z⟩
  · have hk' := kindB_not hk
    have HW : Hid (Shd.getS b = (Shd.nul, 3)) := HV.out.trans (if_pos (.inl (by simpa using hk)))
    clear HV hk
    rcases hk' with hk' | hk'
    · rw [hk'] at hc0
      go_wp2_with (first | (refine wpList_buildAs rfl 26 _ rfl Z HB.out (by simp) ?_) | (refine wpList_store_row rfl 26 _ _ rfl w.heap.size Z rfl rfl 26 Z hv2 (by rw [HS.out]; exact shdInfo) rfl HO.out ?_))
      refine bodyPost_ret (results_cell_row2 (g := w.heap.size) (te := 26) (cs := Z) (fr := (0, 0)) rfl _ _ _ rfl (hv2.row Z) Try.underlying26 rfl (by rw [HS.out]; exact shdInfo)) rfl ⟨by rw [HW.out, HZN.out]; rfl, below_setRow hb1 (Nat.le_refl _) Z⟩
    · have hd : decide (4 < (y0.toNat : Int)) = true := by simp; omega
      have hd2 : decide ((y0.toNat : Int) < 1) = false := by simp; omega
      go_wp2_with (first | (refine wpList_buildAs rfl 26 _ rfl Z HB.out (by simp) ?_) | (refine wpList_store_row rfl 26 _ _ rfl w.heap.size Z rfl rfl 26 Z hv2 (by rw [HS.out]; exact shdInfo) rfl HO.out ?_))
      refine bodyPost_ret (results_cell_row2 (g := w.heap.size) (te := 26) (cs := Z) (fr := (0, 0)) rfl _ _ _ rfl (hv2.row Z) Try.underlying26 rfl (by rw [HS.out]; exact shdInfo)) rfl ⟨by rw [HW.out, HZN.out]; rfl, below_setRow hb1 (Nat.le_refl _) Z⟩
end Cib
