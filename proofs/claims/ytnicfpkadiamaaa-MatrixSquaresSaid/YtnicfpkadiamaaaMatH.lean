/- Mul: of right matrices. -/
import Derived.Test.YtnicfpkadiamaaaMatQ
set_option linter.unusedVariables false
set_option linter.unusedSimpArgs false
set_option maxRecDepth 40000
namespace Cib
open Go Go.RowKit Go.Proofs
section
variable {w wr w2 w3 : World} {go : Nat} {rows cols : Int} {F : List UInt8} {q m : Nat} {A : Option Addr} {c : Nat}
theorem TuI.keptN (h : TuI w go rows cols F q A c wr) (hg : wr.grownBy w3 (Value.slice A q c).ownBlock) {k t cs} (hk : Blk wr k t cs) (ht : t ≠ 5) : Blk w3 k t cs :=
  hk.same (Same.grown (ts := [5]) h.own hg (by decide)) (by intro hm; rw [List.mem_singleton] at hm; exact ht hm)
theorem TuI.pushN (h : TuI w go rows cols F q A c wr) {xs : List UInt8} (hx : F.take q ++ xs = F.take (q + m)) {A3 : Option Addr} {c3 : Nat}
    (ho : w3.ownsRow w.heap.size 5 1 (.slice A3 (q + m) c3) (q + m) ((F.take q).map bv ++ xs.map bv)) (hg : wr.grownBy w3 (Value.slice A q c).ownBlock) :
    TuI w go rows cols F (q + m) A3 c3 (w3.setCell ⟨go, 0 + 2, none⟩ (.slice A3 (q + m) c3)) := by
  have hB := h.keptN hg h.blk (by decide)
  have hbw : Below w.heap.size w w3 := h.below.grown hg h.below.size fun k hk => (h.own.lt k hk).1
  refine ⟨hB.set 2 _, ?_, hbw.setCell (p := ⟨go, 0 + 2, none⟩) h.hgo _, h.hgo⟩
  rw [← hx, List.map_append]
  refine ownsRow_setCell_other ho (fun he => ?_) _
  have := Ty.one (own_blockV ho he).1 hB.ty
  exact absurd this (by decide)
end
theorem take_row {ra ca cb : Nat} {as_ bs : List UInt8} {p : Nat} (hp : p < ra) : (Lin.mulL ra ca cb as_ bs).take (p * cb) ++ Lin.sumL ca cb as_ bs p ca = (Lin.mulL ra ca cb as_ bs).take (p * cb + cb) := by
  have hle : p * cb + cb ≤ ra * cb := by
    rw [← Nat.succ_mul]
    exact Nat.mul_le_mul_right cb hp
  have ht : ∀ q, q ≤ ra * cb → (Lin.mulL ra ca cb as_ bs).take q = tabN cb (Lin.mm ca (Lin.fl ca as_) (Lin.fl cb bs)) q := fun q hq => by
    unfold Lin.mulL tabN
    rw [← List.map_take, List.take_range, Nat.min_eq_left hq]
  rw [ht _ (by omega), ht _ hle, Lin.mulL_row ra ca cb as_ bs p, Nat.succ_mul]
theorem mulBoxA (w3 : World) (T : Nat) : Blk ((w3.drew.alloc (.cells (madeCells #[.int .u8 0] T) 5)).alloc (.cells #[.int .i64 0, .int .i64 0, .slice none 0 0] 24)) (w3.heap.size + 1) 24 #[.int .i64 0, .int .i64 0, .slice none 0 0] := by
  have := Blk.new (w3.drew.alloc (.cells (madeCells #[.int .u8 0] T) 5)) 24 #[.int .i64 0, .int .i64 0, .slice none 0 0]
  simpa using this
theorem mulBegA (w3 : World) (ra cb : Int) (F : List UInt8) (T : Nat) (hT : T ≤ 65025) :
    TuI w3 (w3.heap.size + 1) ra cb F 0 (some ⟨w3.heap.size, 0, none⟩) T (((w3.drew.alloc (.cells (madeCells #[.int .u8 0] T) 5)).alloc (.cells #[.int .i64 0, .int .i64 0, .slice none 0 0] 24)).setRow (w3.heap.size + 1) (mv ra cb (some ⟨w3.heap.size, 0, none⟩) 0 T)) := by
  have hb : Below w3.heap.size w3 ((w3.drew.alloc (.cells (madeCells #[.int .u8 0] T) 5)).alloc (.cells #[.int .i64 0, .int .i64 0, .slice none 0 0] 24)) := ((below_drewN (Below.refl w3.heap.size w3) 1).alloc (Nat.le_refl _) _).alloc (by simp) _
  have hk : Blk ((w3.drew.alloc (.cells (madeCells #[.int .u8 0] T) 5)).alloc (.cells #[.int .i64 0, .int .i64 0, .slice none 0 0] 24)) (w3.heap.size + 1) 24 #[.int .i64 0, .int .i64 0, .slice none 0 0] := by
    have := Blk.new (w3.drew.alloc (.cells (madeCells #[.int .u8 0] T) 5)) 24 #[.int .i64 0, .int .i64 0, .slice none 0 0]
    simpa using this
  have ho := (own_made w3.drew w3.drew.heap.size 5 (.int .u8 0) 0 T (Nat.le_refl _) (Nat.zero_le _) (by unfold maxLen; omega)).alloc (.cells #[.int .i64 0, .int .i64 0, .slice none 0 0] 24)
  refine ⟨hk.row _, own_setRow ho (by simp [Value.ownBlock]) _, below_setRow hb (by omega) _, by omega⟩
theorem mulBegB (w3 : World) (ra cb : Int) (F : List UInt8) (T : Nat) (hT : T ≤ 65025) :
    TuI w3 w3.heap.size ra cb F 0 (some ⟨w3.heap.size + 1, 0, none⟩) T (((w3.drew.alloc (.cells #[.int .i64 0, .int .i64 0, .slice none 0 0] 24)).alloc (.cells (madeCells #[.int .u8 0] T) 5)).setRow w3.heap.size (mv ra cb (some ⟨w3.heap.size + 1, 0, none⟩) 0 T)) := by
  have hb : Below w3.heap.size w3 ((w3.drew.alloc (.cells #[.int .i64 0, .int .i64 0, .slice none 0 0] 24)).alloc (.cells (madeCells #[.int .u8 0] T) 5)) := ((below_drewN (Below.refl w3.heap.size w3) 1).alloc (Nat.le_refl _) _).alloc (by simp) _
  have hk : Blk ((w3.drew.alloc (.cells #[.int .i64 0, .int .i64 0, .slice none 0 0] 24)).alloc (.cells (madeCells #[.int .u8 0] T) 5)) w3.heap.size 24 #[.int .i64 0, .int .i64 0, .slice none 0 0] :=
    (Blk.new w3.drew 24 #[.int .i64 0, .int .i64 0, .slice none 0 0]).alloc _
  have ho := own_made (w3.drew.alloc (.cells #[.int .i64 0, .int .i64 0, .slice none 0 0] 24)) w3.heap.size 5 (.int .u8 0) 0 T (by simp) (Nat.zero_le _) (by unfold maxLen; omega)
  rw [World.size_alloc] at ho
  refine ⟨hk.row _, own_setRow ho (by simp [Value.ownBlock]) _, below_setRow hb (Nat.le_refl _) _, Nat.le_refl _⟩
set_option maxHeartbeats 4000000 in
theorem matMul (g ra ca cb : Nat) (A1 A2 : Option Addr) (n1 k1 n2 k2 : Nat) (as_ bs : List UInt8) (w : World) (h : Fld w g) (h1 : Rd w w.heap.size A1 (as_.map bv)) (h2 : Rd w w.heap.size A2 (bs.map bv)) (hg1 : ∀ ad, A1 = some ad → ad.block ≠ g) (hg2 : ∀ ad, A2 = some ad → ad.block ≠ g)
    (hl1 : as_.length = ra * ca) (hl2 : bs.length = ca * cb) (hn1 : n1 = ra * ca) (hn2 : n2 = ca * cb) (hk1 : n1 ≤ k1) (hk2 : n2 ≤ k2) (hra : 1 ≤ ra ∧ ra ≤ 255) (hca : 1 ≤ ca ∧ ca ≤ 255) (hcb : 1 ≤ cb ∧ cb ≤ 255) :
    Calls Try.prog 20 #[.pointer (some ⟨g, 0, none⟩), .agg (mv ra ca A1 n1 k1), .agg (mv ca cb A2 n2 k2)] w (NewM g ra cb (Lin.mulL ra ca cb as_ bs) w) := by
  have hz := mq_new w (mv ra ca A1 n1 k1) (mv ca cb A2 n2 k2)
  have hle1 : n1 ≤ 65025 := by rw [hn1]; exact Nat.mul_le_mul hra.2 hca.2
  have hle2 : n2 ≤ 65025 := by rw [hn2]; exact Nat.mul_le_mul hca.2 hcb.2
  have HIW := Lib.hid (MqW.new w (mv ra ca A1 n1 k1) (mv ca cb A2 n2 k2))
  have HFA := Lib.hid (h.on hz)
  have HGL := Lib.hid h.lt
  have HZ := Lib.hid hz
  have HR1 := Lib.hid fun W => matRight ra ca A1 n1 k1 (by omega) W
  have HR2 := Lib.hid fun W => matRight ca cb A2 n2 k2 (by omega) W
  rw [show mr (ra : Int) (ca : Int) n1 = true from mr_true.2 ⟨by omega, by omega, by rw [hn1]; simp⟩] at HR1
  rw [show mr (ca : Int) (cb : Int) n2 = true from mr_true.2 ⟨by omega, by omega, by rw [hn2]; simp⟩] at HR2
  have HRD1 := Lib.hid h1
  have HRD2 := Lib.hid h2
  have HHG1 := Lib.hid hg1
  have HHG2 := Lib.hid hg2
  have HL1 := Lib.hid hl1
  have HL2 := Lib.hid hl2
  obtain ⟨T, hT⟩ : ∃ T, ra * cb = T := ⟨_, rfl⟩
  have hT2 : T ≤ 65025 := by rw [← hT]; exact Nat.mul_le_mul hra.2 hcb.2
  have hmul : (ra : Int) * (cb : Int) = (T : Int) := by rw [← hT]; simp
  obtain ⟨i0, hi, hz0, hz1, hz2⟩ := info_parts infoByte
  have hmk2 : ∀ W : World, (Instr.makeSlice 22 (.int .i64 0) (.int .i64 (T : Int))).run Try.prog W = .ok (.slice (some ⟨W.heap.size, 0, none⟩) 0 T) (W.alloc (.cells (madeCells #[.int .u8 0] T) 5)) := fun W => by
    have := run_make (P := Try.prog) W 22 5 i0 (.int .u8 0) Try.underlying22 hi hz0 .i64 .i64 0 (T : Int) (by omega) (by omega) (by rw [hz2]; omega) (by omega)
    rw [hz1, Nat.mul_one, Int.toNat_natCast] at this
    exact this
  have hmk3 := makeB cb (by omega)
  have HT := Lib.hid hT
  have HN1 := Lib.hid hn1
  have HN2 := Lib.hid hn2
  obtain ⟨hra1, hra2⟩ := hra
  obtain ⟨hca1, hca2⟩ := hca
  obtain ⟨hcb1, hcb2⟩ := hcb
  clear h h1 h2 hz hg1 hg2 hl1 hl2 hT hi hz0 hz1 hz2 hn1 hn2
  unfold mv at HR1 HR2 HFA HZ HIW ⊢
  go_enter Try.func20, Try.ntmps20
  go_wp2_with fail
  refine (matNobody g _ HFA.out).mono ?_
  rintro e w1 ⟨rfl, ha⟩
  have HS1 := Lib.hid (ha.stp2 HZ.out)
  have HI1 := Lib.hid (HIW.out.aft ha HGL.out)
  have m0 := HI1.out.m.cell 0
  have m1 := HI1.out.m.cell 1
  have m2 := HI1.out.m.cell 2
  simp only [List.getElem?_toArray, List.getElem?_cons_zero, List.getElem?_cons_succ] at m0 m1 m2
  clear ha HFA HIW HZ
  go_wp2_with fail
  refine (HR1.out _).mono ?_
  rintro e w2 ⟨rfl, hb2⟩
  have HI2 := Lib.hid (HI1.out.below hb2)
  have HS2 := Lib.hid (HS1.out.via hb2)
  clear hb2 m0 m1 m2 HI1 HS1
  have n0 := HI2.out.n.cell 0
  have n1' := HI2.out.n.cell 1
  have n2' := HI2.out.n.cell 2
  simp only [List.getElem?_toArray, List.getElem?_cons_zero, List.getElem?_cons_succ] at n0 n1' n2'
  go_wp2_with fail
  refine (HR2.out _).mono ?_
  rintro e w3 ⟨rfl, hb3⟩
  have HI3 := Lib.hid (HI2.out.below hb3)
  have HS3 := Lib.hid (HS2.out.via hb3)
  clear hb3 n0 n1' n2' HI2 HS2 HR1 HR2
  have m0 := HI3.out.m.cell 0
  have m1 := HI3.out.m.cell 1
  have m2 := HI3.out.m.cell 2
  have n0 := HI3.out.n.cell 0
  have n1' := HI3.out.n.cell 1
  have n2' := HI3.out.n.cell 2
  simp only [List.getElem?_toArray, List.getElem?_cons_zero, List.getElem?_cons_succ] at m0 m1 m2 n0 n1' n2'
  have hlz := HI3.out.z.lt
  have hlm := HI3.out.m.lt
  have hln := HI3.out.n.lt
  have hwT : IntKind.i64.wrap (T : Int) = (T : Int) := by rw [IntKind.wrap_i64]; omega
  have hD3 : Below w3.heap.size w3 w3.drew := below_drewN (Below.refl _ _) 1
  go_upto_region 5 with fail
  go_cut [8] (fun p wx => ∃ (go gm : Nat), p = .pointer (some ⟨go, 0, none⟩) ∧ Hid (TuI w3 go ra cb (Lin.mulL ra ca cb as_ bs) 0 (some ⟨gm, 0, none⟩) T wx))
  case first =>
    refine wp_region_held_drew (S := (fun wQq => Below (World.heap (w3.drew)).size (w3.drew) wQq)) (by kernel_rfl) (by exact Below.refl _ _) (fun _ => ?_)
    refine wpAnyH_take (i := 0) (v := ?_) rfl (by kernel_rfl) (by kernel_rfl) (by kernel_rfl) (fun _ _ _ h => h) (Or.inl ⟨by rfl, ?_⟩) (Below.refl _ _) ?_
    rotate_left
    · intro wS hSw
      go_simp
      try with_reducible rfl
    try simp only [List.getElem_toArray, List.getElem_cons_zero, List.getElem_cons_succ, Act.put, List.setIfInBounds_toArray, List.set_cons_zero, List.set_cons_succ]
    refine wpAnyH_take (i := 2) (v := ?_) rfl (by kernel_rfl) (by kernel_rfl) (by kernel_rfl) (fun _ _ _ h => h) (Or.inl ⟨by rfl, ?_⟩) (Below.refl _ _) ?_
    rotate_left
    · intro wS hSw
      go_simp
      try with_reducible rfl
    try simp only [List.getElem_toArray, List.getElem_cons_zero, List.getElem_cons_succ, Act.put, List.setIfInBounds_toArray, List.set_cons_zero, List.set_cons_succ]
    refine wpAnyH_take (i := 4) (v := ?_) rfl (by kernel_rfl) (by kernel_rfl) (by kernel_rfl) (fun _ _ _ h => h) (Or.inl ⟨by rfl, ?_⟩) (Below.refl _ _) ?_
    rotate_left
    · intro wS hSw
      go_simp
      try with_reducible rfl
    try simp only [List.getElem_toArray, List.getElem_cons_zero, List.getElem_cons_succ, Act.put, List.setIfInBounds_toArray, List.set_cons_zero, List.set_cons_succ]
    refine wpAnyH_take (i := 6) (v := ?_) rfl (by kernel_rfl) (by kernel_rfl) (by kernel_rfl) (fun _ _ _ h => h) (Or.inl ⟨by rfl, ?_⟩) (Below.refl _ _) ?_
    rotate_left
    · intro wS hSw
      go_simp
      try with_reducible rfl
    try simp only [List.getElem_toArray, List.getElem_cons_zero, List.getElem_cons_succ, Act.put, List.setIfInBounds_toArray, List.set_cons_zero, List.set_cons_succ]
    refine wpAnyH_take (i := 1) (v := ?_) rfl (by kernel_rfl) (by kernel_rfl) (by kernel_rfl) (fun _ _ _ h => h) (Or.inl ⟨by rfl, ?_⟩) (Below.refl _ _) ?_
    rotate_left
    · intro wS hSw
      have hcv := ((hSw.cell (p := ⟨w.heap.size, 0, none⟩) (by exact hlm)).trans m0)
      go_simp
      try with_reducible rfl
    try simp only [List.getElem_toArray, List.getElem_cons_zero, List.getElem_cons_succ, Act.put, List.setIfInBounds_toArray, List.set_cons_zero, List.set_cons_succ]
    refine wpAnyH_take (i := 3) (v := ?_) rfl (by kernel_rfl) (by kernel_rfl) (by kernel_rfl) (fun _ _ _ h => h) (Or.inl ⟨by rfl, ?_⟩) (Below.refl _ _) ?_
    rotate_left
    · intro wS hSw
      have hcv := ((hSw.cell (p := ⟨w.heap.size + 1, 1, none⟩) (by exact hln)).trans n1')
      go_simp
      try with_reducible rfl
    try simp only [List.getElem_toArray, List.getElem_cons_zero, List.getElem_cons_succ, Act.put, List.setIfInBounds_toArray, List.set_cons_zero, List.set_cons_succ]
    refine wpAnyH_take (i := 5) (v := ?_) rfl (by kernel_rfl) (by kernel_rfl) (by kernel_rfl) (fun _ _ _ h => h) (Or.inl ⟨by rfl, ?_⟩) (Below.refl _ _) ?_
    rotate_left
    · intro wS hSw
      have hcv := ((hSw.cell (p := ⟨w.heap.size, 0, none⟩) (by exact hlm)).trans m0)
      go_simp
      try with_reducible rfl
    try simp only [List.getElem_toArray, List.getElem_cons_zero, List.getElem_cons_succ, Act.put, List.setIfInBounds_toArray, List.set_cons_zero, List.set_cons_succ]
    refine wpAnyH_take (i := 7) (v := ?_) rfl (by kernel_rfl) (by kernel_rfl) (by kernel_rfl) (fun _ _ _ h => h) (Or.inl ⟨by rfl, ?_⟩) (Below.refl _ _) ?_
    rotate_left
    · intro wS hSw
      have hcv := ((hSw.cell (p := ⟨w.heap.size + 1, 1, none⟩) (by exact hln)).trans n1')
      go_simp
      try with_reducible rfl
    try simp only [List.getElem_toArray, List.getElem_cons_zero, List.getElem_cons_succ, Act.put, List.setIfInBounds_toArray, List.set_cons_zero, List.set_cons_succ]
    refine wpAnyH_take (i := 8) (v := ?_) rfl (by kernel_rfl) (by kernel_rfl) (by kernel_rfl) (fun _ _ _ h => h) (Or.inl ⟨by rfl, ?_⟩) (Below.refl _ _) ?_
    rotate_left
    · intro wS hSw
      go_simp
      try with_reducible rfl
    try simp only [List.getElem_toArray, List.getElem_cons_zero, List.getElem_cons_succ, Act.put, List.setIfInBounds_toArray, List.set_cons_zero, List.set_cons_succ]
    refine wpAnyH_ready (rs := [9, 11]) (by kernel_rfl) (by simp) ?_
    refine AllReadyH.cons rfl (fun K hK => ?_) (AllReadyH.cons rfl (fun K hK => ?_) AllReadyH.nil)
    · go_simp
      first
        | have HB9 := Lib.hid (HB11.out.alloc (by simp) (.cells (madeCells #[.int .u8 0] T) 5))
        | have HB9 := Lib.hid ((Below.refl w3.drew.heap.size w3.drew).alloc (Nat.le_refl _) (.cells (madeCells #[.int .u8 0] T) 5))
      refine hK.out _ _ HB9.out (fun _ => ?_)
      clear hK K
      try simp only [List.getElem_toArray, List.getElem_cons_zero, List.getElem_cons_succ, Act.put, List.setIfInBounds_toArray, List.set_cons_zero, List.set_cons_succ]
      refine wpAnyH_take (i := 10) (v := ?_) rfl (by kernel_rfl) (by kernel_rfl) (by kernel_rfl) (fun _ _ _ h => h) (Or.inl ⟨by rfl, ?_⟩) HB9.out ?_
      rotate_left
      · intro wS hSw
        go_simp
        try with_reducible rfl
      try simp only [List.getElem_toArray, List.getElem_cons_zero, List.getElem_cons_succ, Act.put, List.setIfInBounds_toArray, List.set_cons_zero, List.set_cons_succ]
      refine wpAnyH_ready (rs := [11]) (by kernel_rfl) (by simp) ?_
      refine AllReadyH.cons rfl (fun K hK => ?_) AllReadyH.nil
      go_simp
      first
        | have HB11 := Lib.hid (HB9.out.alloc (by simp) (.cells #[.int .i64 0, .int .i64 0, .slice none 0 0] 24))
        | have HB11 := Lib.hid ((Below.refl w3.drew.heap.size w3.drew).alloc (Nat.le_refl _) (.cells #[.int .i64 0, .int .i64 0, .slice none 0 0] 24))
      refine hK.out _ _ HB11.out (fun _ => ?_)
      clear hK K
      try simp only [List.getElem_toArray, List.getElem_cons_zero, List.getElem_cons_succ, Act.put, List.setIfInBounds_toArray, List.set_cons_zero, List.set_cons_succ]
      refine wpAnyH_ready (rs := [12]) (by kernel_rfl) (by simp) ?_
      refine AllReadyH.cons rfl (fun K hK => ?_) AllReadyH.nil
      first
        | (refine wp_store_row 24 (.tmp 8) (.tmp 44) rfl (w3.heap.size + 1) (mv ra cb (some ⟨w3.heap.size, 0, none⟩) 0 T) rfl rfl 24 #[.int .i64 0, .int .i64 0, .slice none 0 0] (mulBoxA w3 T) matInfo3 rfl (mv_one _ _ _ _ _) ?_; have HTU := Lib.hid (mulBegA w3 ra cb (Lin.mulL ra ca cb as_ bs) T hT2); have HB12 := Lib.hid (below_setRow HB11.out (g := w3.heap.size + 1) (by simp) (mv ra cb (some ⟨w3.heap.size, 0, none⟩) 0 T)))
        | (refine wp_store_row 24 (.tmp 8) (.tmp 44) rfl w3.heap.size (mv ra cb (some ⟨w3.heap.size + 1, 0, none⟩) 0 T) rfl rfl 24 #[.int .i64 0, .int .i64 0, .slice none 0 0] ((Blk.new w3.drew 24 #[.int .i64 0, .int .i64 0, .slice none 0 0]).alloc _) matInfo3 rfl (mv_one _ _ _ _ _) ?_; have HTU := Lib.hid (mulBegB w3 ra cb (Lin.mulL ra ca cb as_ bs) T hT2); have HB12 := Lib.hid (below_setRow HB9.out (g := w3.heap.size) (by simp) (mv ra cb (some ⟨w3.heap.size + 1, 0, none⟩) 0 T)))
      refine hK.out _ _ HB12.out (fun _ => ?_)
      clear hK K
      try simp only [List.getElem_toArray, List.getElem_cons_zero, List.getElem_cons_succ, Act.put, List.setIfInBounds_toArray, List.set_cons_zero, List.set_cons_succ]
      refine wpAnyH_done (by kernel_rfl) ?_ _
      go_wp2_with fail
      go_meet
      exact ⟨_, _, rfl, HTU⟩
    · go_simp
      first
        | have HB11 := Lib.hid (HB9.out.alloc (by simp) (.cells #[.int .i64 0, .int .i64 0, .slice none 0 0] 24))
        | have HB11 := Lib.hid ((Below.refl w3.drew.heap.size w3.drew).alloc (Nat.le_refl _) (.cells #[.int .i64 0, .int .i64 0, .slice none 0 0] 24))
      refine hK.out _ _ HB11.out (fun _ => ?_)
      clear hK K
      try simp only [List.getElem_toArray, List.getElem_cons_zero, List.getElem_cons_succ, Act.put, List.setIfInBounds_toArray, List.set_cons_zero, List.set_cons_succ]
      refine wpAnyH_ready (rs := [9]) (by kernel_rfl) (by simp) ?_
      refine AllReadyH.cons rfl (fun K hK => ?_) AllReadyH.nil
      go_simp
      first
        | have HB9 := Lib.hid (HB11.out.alloc (by simp) (.cells (madeCells #[.int .u8 0] T) 5))
        | have HB9 := Lib.hid ((Below.refl w3.drew.heap.size w3.drew).alloc (Nat.le_refl _) (.cells (madeCells #[.int .u8 0] T) 5))
      refine hK.out _ _ HB9.out (fun _ => ?_)
      clear hK K
      try simp only [List.getElem_toArray, List.getElem_cons_zero, List.getElem_cons_succ, Act.put, List.setIfInBounds_toArray, List.set_cons_zero, List.set_cons_succ]
      refine wpAnyH_take (i := 10) (v := ?_) rfl (by kernel_rfl) (by kernel_rfl) (by kernel_rfl) (fun _ _ _ h => h) (Or.inl ⟨by rfl, ?_⟩) HB9.out ?_
      rotate_left
      · intro wS hSw
        go_simp
        try with_reducible rfl
      try simp only [List.getElem_toArray, List.getElem_cons_zero, List.getElem_cons_succ, Act.put, List.setIfInBounds_toArray, List.set_cons_zero, List.set_cons_succ]
      refine wpAnyH_ready (rs := [12]) (by kernel_rfl) (by simp) ?_
      refine AllReadyH.cons rfl (fun K hK => ?_) AllReadyH.nil
      first
        | (refine wp_store_row 24 (.tmp 8) (.tmp 44) rfl (w3.heap.size + 1) (mv ra cb (some ⟨w3.heap.size, 0, none⟩) 0 T) rfl rfl 24 #[.int .i64 0, .int .i64 0, .slice none 0 0] (mulBoxA w3 T) matInfo3 rfl (mv_one _ _ _ _ _) ?_; have HTU := Lib.hid (mulBegA w3 ra cb (Lin.mulL ra ca cb as_ bs) T hT2); have HB12 := Lib.hid (below_setRow HB11.out (g := w3.heap.size + 1) (by simp) (mv ra cb (some ⟨w3.heap.size, 0, none⟩) 0 T)))
        | (refine wp_store_row 24 (.tmp 8) (.tmp 44) rfl w3.heap.size (mv ra cb (some ⟨w3.heap.size + 1, 0, none⟩) 0 T) rfl rfl 24 #[.int .i64 0, .int .i64 0, .slice none 0 0] ((Blk.new w3.drew 24 #[.int .i64 0, .int .i64 0, .slice none 0 0]).alloc _) matInfo3 rfl (mv_one _ _ _ _ _) ?_; have HTU := Lib.hid (mulBegB w3 ra cb (Lin.mulL ra ca cb as_ bs) T hT2); have HB12 := Lib.hid (below_setRow HB9.out (g := w3.heap.size) (by simp) (mv ra cb (some ⟨w3.heap.size + 1, 0, none⟩) 0 T)))
      refine hK.out _ _ HB12.out (fun _ => ?_)
      clear hK K
      try simp only [List.getElem_toArray, List.getElem_cons_zero, List.getElem_cons_succ, Act.put, List.setIfInBounds_toArray, List.set_cons_zero, List.set_cons_succ]
      refine wpAnyH_done (by kernel_rfl) ?_ _
      go_wp2_with fail
      go_meet
      exact ⟨_, _, rfl, HTU⟩
  case rest =>
    obtain ⟨go, gm, rfl, hI0⟩ := hcut
    clear hmk2 hmul hwT m0 m1 m2 n0 n1' n2' hlz hlm hln hD3
    have HRA := Lib.hid fun wr (hb : Below w3.heap.size w3 wr) p (hp : p < ra) => cut_row ((((HS3.out.rd HRD1.out (Nat.le_refl _) HHG1.out).more HS3.out.size).below hb).more hb.size) HL1.out hp
    have HRB := Lib.hid fun wr (hb : Below w3.heap.size w3 wr) p (hp : p < ca) => cut_row ((((HS3.out.rd HRD2.out (Nat.le_refl _) HHG2.out).more HS3.out.size).below hb).more hb.size) HL2.out hp
    have HFU := Lib.hid fun wr (hb : Below w3.heap.size w3 wr) => HS3.out.full.on hb
    have HMW := Lib.hid fun wr (hb : Below w3.heap.size w3 wr) => HI3.out.below hb
    have HQ1 := Lib.hid fun p (hp : p < ra) W => matRow A1 n1 k1 ca p hca2 (by rw [HN1.out]; exact Nat.mul_le_mul_right ca hp) (by omega) hk1 W
    have HQ2 := Lib.hid fun p (hp : p < ca) W => matRow A2 n2 k2 cb p hcb2 (by rw [HN2.out]; exact Nat.mul_le_mul_right cb hp) (by omega) hk2 W
    have HS0 := Lib.hid fun p => Lin.sumL_zero ca cb as_ bs p
    have HSL := Lib.hid fun p j => Lin.sumL_length ca cb as_ bs p j
    have HSN := Lib.hid fun p j (hj : j < ca) => Lin.sumL_next (ca := ca) (cb := cb) (i := p) (A := as_) HL2.out hj
    have HTK := Lib.hid fun p (hp : p < ra) => take_row (ca := ca) (cb := cb) (as_ := as_) (bs := bs) hp
    have HR1L := Lib.hid fun p (hp : p < ra) => Lin.rowOf_length HL1.out hp
    have HR2L := Lib.hid fun p (hp : p < ca) => Lin.rowOf_length HL2.out hp
    have HRG := Lib.hid fun p j (hj : j < ca) => Lin.rowOf_get (i := p) (A := as_) hj
    have HTL := Lib.hid (Lin.mulL_length ra ca cb as_ bs)
    generalize Lin.mulL ra ca cb as_ bs = F at *
    generalize Lin.sumL ca cb as_ bs = SU at *
    generalize Lin.fl ca as_ = FA at *
    generalize Lin.rowOf ca as_ = RA at *
    generalize Lin.rowOf cb bs = RB at *
    clear HL1 HL2 HRD1 HRD2 HHG1 HHG2 HN1 HN2
    have hgs := HS3.out.size
    have m0 := (HMW.out _ hI0.out.below).m.cell 0
    simp only [List.getElem?_toArray, List.getElem?_cons_zero, List.getElem?_cons_succ] at m0
    go_wp2
    go_loopw [9, 10, 11, 12, 47] (fun _ _ _ _ i wr => ∃ (p : Nat) (A' : Option Addr) (c' : Nat), i = .int .i64 p ∧ p ≤ ra ∧ Hid (TuI w3 go ra cb F (p * cb) A' c' wr)) (fun _ _ _ _ i _ => ra - (intOf i).toNat)
    case atStart => exact ⟨0, some ⟨gm, 0, none⟩, T, rfl, Nat.zero_le _, by rw [Nat.zero_mul]; exact hI0⟩
    case round =>
      clear hI0 m0
      obtain ⟨p, A', c', rfl, hp, hI⟩ := hrel
      by_cases hlt : p < ra
      · rename World => wo
        have hM := HMW.out wo hI.out.below
        have m1 := hM.m.cell 1
        have m2 := hM.m.cell 2
        have n1' := hM.n.cell 1
        simp only [List.getElem?_toArray, List.getElem?_cons_zero, List.getElem?_cons_succ] at m1 m2 n1'
        have hlm := hM.m.lt
        have hln := hM.n.lt
        have HRp := Lib.hid (HRA.out wo hI.out.below p hlt)
        have HQp := Lib.hid (HQ1.out p hlt)
        have HLp := Lib.hid (HR1L.out p hlt)
        have HGp := Lib.hid (HRG.out p)
        have HS00 : Hid ((wo.alloc (.cells (madeCells #[.int .u8 0] cb) 5)).ownsRow wo.heap.size 5 1 (.slice (some ⟨wo.heap.size, 0, none⟩) cb cb) cb ((SU p 0).map bv)) := Lib.hid (by
          rw [HS0.out p, List.map_replicate]
          exact own_made wo wo.heap.size 5 (.int .u8 0) cb cb (Nat.le_refl _) (Nat.le_refl _) (by unfold maxLen; omega))
        have HB0 := Lib.hid ((Below.refl wo.heap.size wo).alloc (Nat.le_refl _) (.cells (madeCells #[.int .u8 0] cb) 5))
        clear hM
        generalize cut A1 ((p + 1) * ca) (p * ca) = As at *
        obtain ⟨ad, rfl, hab, _⟩ := HRp.out.byte (k := 0) (by rw [HLp.out]; omega)
        clear hab
        go_wp2_with fail
        refine (HQp.out _).mono ?_
        rintro e w5 ⟨rfl, rfl⟩
        go_wp2
        go_loopw [10, 11, 12, 60] (fun s _ _ i wr => ∃ (j : Nat) (As : Option Addr) (cs : Nat), s = .slice As cb cs ∧ i = .int .i64 j ∧ j ≤ ca ∧ Hid (wr.ownsRow wo.heap.size 5 1 (.slice As cb cs) cb ((SU p j).map bv)) ∧ Hid (Below wo.heap.size wo wr)) (fun _ _ _ i _ => ca - (intOf i).toNat)
        case atStart => exact ⟨0, some ⟨wo.heap.size, 0, none⟩, cb, rfl, rfl, Nat.zero_le _, HS00, HB0⟩
        case round =>
          clear HS00 HB0 m1 m2 n1' hlm hln
          obtain ⟨j, As, cs, rfl, rfl, hj, hO, hbx⟩ := hrel
          have hbw : Below w3.heap.size w3 wr := hI.out.below.trans (hbx.out.mono hI.out.below.size)
          by_cases hlj : j < ca
          · obtain ⟨ad', had, _, hcell⟩ := (HRp.out.below hbx.out).byte (k := j) (by rw [HLp.out]; exact hlj)
            obtain rfl := Option.some.inj had
            have hM := HMW.out wr hbw
            have n1' := hM.n.cell 1
            have n2' := hM.n.cell 2
            simp only [List.getElem?_toArray, List.getElem?_cons_zero, List.getElem?_cons_succ] at n1' n2'
            have hx : (RA p)[j]'(by rw [HLp.out]; exact hlj) = FA p j := by
              rw [← HGp.out j hlj]
              exact (getD_0 _).symm
            rw [hx] at hcell
            have HQj := Lib.hid (HQ2.out j hlj)
            have HRj := Lib.hid (HRB.out wr hbw j hlj)
            have HLj := Lib.hid (HR2L.out j hlj)
            have HFu := Lib.hid (HFU.out wr hbw)
            have HSn := Lib.hid (HSN.out p j hlj)
            generalize cut A2 ((j + 1) * cb) (j * cb) = Bj at *
            have HFO := Lib.hid (fldFoldF g (FA p j).toNat (FA p j).toNat_lt Bj cb (RB j) As cs (SU p j) wr HFu.out wr.heap.size wr.heap.size HRj.out (Rd.of_own hO.out) HLj.out (HSL.out p j) (Nat.le_refl _) (Nat.le_refl _) (by omega) (by omega) (Nat.le_refl cb))
            rw [HSn.out] at HFO
            unfold NewB at HFO
            clear hx hM hbw HRj HFu HSn had
            generalize FA p j = x at *
            go_wp2_with fail
            refine (HQj.out _).mono ?_
            rintro e w6 ⟨rfl, rfl⟩
            go_wp2_with fail
            refine HFO.out.mono ?_
            rintro e w7 ⟨A7, n7, c7, rfl, hl7, ho7, hb7⟩
            rw [HSL.out] at hl7
            subst hl7
            have HO7 := Lib.hid (own_lowerS ho7 hbx.out.size)
            have HB7 := Lib.hid (hbx.out.via hb7)
            clear ho7 hb7
            go_wp2
            go_roundw
            case rel => exact ⟨j + 1, A7, c7, rfl, by go_num, hlj, HO7, HB7⟩
            case measure => simp [intOf]; omega
          · obtain rfl : j = ca := by omega
            have HTU := Lib.hid (hI.out.via hbx.out)
            have HTKp := Lib.hid (HTK.out p hlt)
            have hcm : wr.cell? ⟨go, 2, none⟩ = some (.slice A' (p * cb) c') := HTU.out.blk.cell 2
            have hgl := HTU.out.blk.lt
            have hsz := hbw.size
            have hpc : p * cb ≤ 255 * 255 := Nat.mul_le_mul (by omega) hcb2
            have HSLp := Lib.hid (HSL.out p j)
            have hpp : Hid ((p + 1) * cb = p * cb + cb) := Lib.hid (Nat.succ_mul p cb)
            clear hI hbw
            go_wp2_with (at_builtin; go_loud (refine appB _ rfl (.tmp 77) (.tmp 78) rfl w3.heap.size A' (p * cb) c' ((F.take (p * cb)).map bv) rfl HTU.out.own _ As cb cs ((SU p j).map bv) rfl (by rw [List.length_map]; exact HSLp.out) (Rd.of_own hO.out) one_bytes (by omega) hsz ?_; intro A3 c3 w8 ho8 hg8 hb8; have hk8 := HTU.out.keptN hg8 HTU.out.blk (by decide); have hcm8 := hk8.cell 2; rw [show (mv (ra : Int) (cb : Int) A' (p * cb) c')[2]? = some (.slice A' (p * cb) c') from rfl] at hcm8; have hfm8 := hk8.frozen 2; have HI8 := Lib.hid (HTU.out.pushN HTKp.out ho8 hg8); clear hk8 ho8 hg8 hb8))
            go_roundw
            case rel => exact ⟨p + 1, A3, c3, by go_num, hlt, Lib.hid (by rw [hpp.out]; exact HI8.out)⟩
            case measure => simp [intOf]; omega
      · obtain rfl : p = ra := by omega
        have hb := hI.out.blk
        have hz := (HMW.out wr hI.out.below).z
        have HII := Lib.hid hI.out
        have HNE : Hid ((Value.slice A' (p * cb) c').ownBlock ≠ some (w.heap.size + 1 + 1)) := Lib.hid fun he => by
          have := Ty.one (own_blockV HII.out.own he).1 hz.ty
          exact absurd this (by decide)
        clear hI hlt
        go_wp2_with (first | (refine wpList_load_row rfl 24 (.tmp 8) rfl go rfl 24 (mv p cb A' (p * cb) c') (0, 0) _ hb Try.underlying24 rfl matInfo3 ?_) | (refine wpList_store_row rfl 24 (.tmp 6) (.tmp 82) rfl (w.heap.size + 1 + 1) (mv p cb A' (p * cb) c') rfl rfl 24 (mv 0 0 none 0 0) hz matInfo3 rfl (mv_one _ _ _ _ _) ?_))
        refine bodyPost_ret (results_mat2 (g := w.heap.size + 1 + 1) (te := 24) (cs := mv p cb A' (p * cb) c') (fr := (0, 0)) rfl _ _ _ rfl (hz.row _) Try.underlying24 rfl matInfo3) rfl ⟨A', c', rfl, HTL.out, ?_, (HS3.out.via HII.out.below).setRow (by omega) (by have := HGL.out; omega) _⟩
        have ho := HII.out.own
        rw [List.take_of_length_le (by rw [HTL.out]; exact Nat.le_refl _)] at ho
        exact own_setRow (own_lowerS ho hgs) HNE.out _
end Cib
