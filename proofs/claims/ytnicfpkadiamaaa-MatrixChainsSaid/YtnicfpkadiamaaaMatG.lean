/- The document's Mul. -/
import Derived.Test.YtnicfpkadiamaaaMatE
set_option linter.unusedVariables false
set_option linter.unusedSimpArgs false
set_option maxRecDepth 40000
namespace Cib
open Go Go.RowKit Go.Proofs
/-- Mul under way. -/
structure MuI (w : World) (go : Nat) (ra cb : Int) (F : List UInt8) (M1 M2 : Array Value) (q : Nat) (A : Option Addr) (c : Nat) (wr : World) : Prop where
  tu : TuI w go ra cb F q A c wr
  m1 : Blk wr w.heap.size 24 M1
  m2 : Blk wr (w.heap.size + 1) 24 M2
  z : Blk wr (w.heap.size + 1 + 1) 24 #[.int .i64 0, .int .i64 0, .slice none 0 0]
theorem MuI.via {w wr w2 : World} {go : Nat} {ra cb : Int} {F : List UInt8} {M1 M2 : Array Value} {q : Nat} {A : Option Addr} {c : Nat} (h : MuI w go ra cb F M1 M2 q A c wr) (hb : Below wr.heap.size wr w2) : MuI w go ra cb F M1 M2 q A c w2 :=
  ⟨h.tu.via hb, h.m1.below hb h.m1.lt, h.m2.below hb h.m2.lt, h.z.below hb h.z.lt⟩
theorem u8_xor_gm (s x y : UInt8) : bits .xor .u8 ((s.toNat : Nat) : Int) ((Fld.gmul x.toNat y.toNat : Nat) : Int) = ((s ^^^ Lin.gm x y).toNat : Int) := by
  rw [u8_xor_nat _ _ s.toNat_lt (Fld.gmul_lt x.toNat_lt), UInt8.toNat_xor, Lin.gm_toNat]
set_option maxHeartbeats 4000000 in
theorem refMul4 (ra ca cb : Nat) (A1 A2 : Option Addr) (n1 k1 n2 k2 : Nat) (as_ bs : List UInt8) (w : World) (B : Nat) (hB : B ≤ w.heap.size) (h1 : Rd w B A1 (as_.map bv)) (h2 : Rd w B A2 (bs.map bv)) (hl1 : as_.length = ra * ca) (hl2 : bs.length = ca * cb) (hn1 : n1 = ra * ca) (hn2 : n2 = ca * cb) (hk1 : n1 ≤ k1) (hk2 : n2 ≤ k2)
    (hra : 1 ≤ ra ∧ ra ≤ 255) (hca : 1 ≤ ca ∧ ca ≤ 255) (hcb : 1 ≤ cb ∧ cb ≤ 255) :
    Calls Try.prog 18 #[.agg (mv ra ca A1 n1 k1), .agg (mv ca cb A2 n2 k2)] w (NewE ra cb (Lin.mulL ra ca cb as_ bs) w) := by
  have hnn : ra * cb ≤ 65025 := Nat.mul_le_mul hra.2 hcb.2
  have hm1 : mr (ra : Int) (ca : Int) (ra * ca) = true := mr_true.2 ⟨by omega, by omega, by simp⟩
  have hm2 : mr (ca : Int) (cb : Int) (ca * cb) = true := mr_true.2 ⟨by omega, by omega, by simp⟩
  have HA4 := Lib.hid fun (i j : Nat) (hi : i < ra) (hj : j < ca) (W : World) (hW : Below w.heap.size w W) => (by
    have := refAt4 (ra : Int) (ca : Int) A1 n1 k1 as_ (i : Int) (j : Int) W B (Nat.le_trans hB hW.size) (h1.below (hW.mono hB)) (by omega) hk1
    rw [show atN (ra : Int) (ca : Int) n1 as_ (i : Int) (j : Int) = Lin.fl ca as_ i j by rw [hn1]; exact atN_in hm1 hi hj] at this
    exact this : Calls Try.prog 25 #[.agg (mv ra ca A1 n1 k1), .int .i64 (i : Int), .int .i64 (j : Int)] W fun e w' => e = .returned (.int .u8 ((Lin.fl ca as_ i j).toNat : Int)) ∧ Below W.heap.size W w')
  have HB4 := Lib.hid fun (i j : Nat) (hi : i < ca) (hj : j < cb) (W : World) (hW : Below w.heap.size w W) => (by
    have := refAt4 (ca : Int) (cb : Int) A2 n2 k2 bs (i : Int) (j : Int) W B (Nat.le_trans hB hW.size) (h2.below (hW.mono hB)) (by omega) hk2
    rw [show atN (ca : Int) (cb : Int) n2 bs (i : Int) (j : Int) = Lin.fl cb bs i j by rw [hn2]; exact atN_in hm2 hi hj] at this
    exact this : Calls Try.prog 25 #[.agg (mv ca cb A2 n2 k2), .int .i64 (i : Int), .int .i64 (j : Int)] W fun e w' => e = .returned (.int .u8 ((Lin.fl cb bs i j).toNat : Int)) ∧ Below W.heap.size W w')
  have HR1 := Lib.hid fun W => refRight4 ra ca A1 n1 k1 W
  have HR2 := Lib.hid fun W => refRight4 ca cb A2 n2 k2 W
  rw [hn1, hm1, ← hn1] at HR1
  rw [hn2, hm2, ← hn2] at HR2
  have HTL := Lib.hid (Lin.mulL_length ra ca cb as_ bs)
  have HTG : Hid (∀ i k : Nat, i < ra → k < cb → (Lin.mulL ra ca cb as_ bs)[i * cb + k]? = some (Lin.sm ca (fun l => Lin.gm (Lin.fl ca as_ i l) (Lin.fl cb bs l k)))) := Lib.hid fun (i k : Nat) (hi : i < ra) (hk : k < cb) => tab_get? (cols := cb) (p := ra * cb) (val := Lin.mm ca (Lin.fl ca as_) (Lin.fl cb bs)) (i := i) (j := k) hk (Lin.lt_of_rc hi hk)
  have hM1 := ((Blk.new w 24 (mv ra ca A1 n1 k1)).alloc (.cells (mv ca cb A2 n2 k2) 24)).alloc (.cells (mv 0 0 none 0 0) 24)
  have hM2 : Blk (((w.alloc (.cells (mv ra ca A1 n1 k1) 24)).alloc (.cells (mv ca cb A2 n2 k2) 24)).alloc (.cells (mv 0 0 none 0 0) 24)) (w.heap.size + 1) 24 (mv ca cb A2 n2 k2) := by
    have := (Blk.new (w.alloc (.cells (mv ra ca A1 n1 k1) 24)) 24 (mv ca cb A2 n2 k2)).alloc (.cells (mv 0 0 none 0 0) 24)
    simpa using this
  have hZ : Blk (((w.alloc (.cells (mv ra ca A1 n1 k1) 24)).alloc (.cells (mv ca cb A2 n2 k2) 24)).alloc (.cells (mv 0 0 none 0 0) 24)) (w.heap.size + 1 + 1) 24 (mv 0 0 none 0 0) := by
    have := Blk.new ((w.alloc (.cells (mv ra ca A1 n1 k1) 24)).alloc (.cells (mv ca cb A2 n2 k2) 24)) 24 (mv 0 0 none 0 0)
    simpa using this
  have hal : Below w.heap.size w (((w.alloc (.cells (mv ra ca A1 n1 k1) 24)).alloc (.cells (mv ca cb A2 n2 k2) 24)).alloc (.cells (mv 0 0 none 0 0) 24)) := (((Below.refl _ _).alloc (Nat.le_refl _) _).alloc (by simp) _).alloc (by simp; omega) _
  have HM1 := Lib.hid hM1
  have HM2 := Lib.hid hM2
  have HZ := Lib.hid hZ
  have HAL := Lib.hid hal
  obtain ⟨hra1, hra2⟩ := hra
  obtain ⟨hca1, hca2⟩ := hca
  obtain ⟨hcb1, hcb2⟩ := hcb
  clear hM1 hM2 hZ hal hm1 hm2 h1 h2 hl1 hl2 hn1 hn2 hk1 hk2
  unfold NewE
  obtain ⟨F, hF⟩ : ∃ F, Lin.mulL ra ca cb as_ bs = F := ⟨_, rfl⟩
  rw [hF] at HTL HTG ⊢
  clear hF
  unfold mv at HR1 HR2 HM1 HM2 HZ HAL HA4 HB4 ⊢
  go_enter Try.func18, Try.ntmps18
  go_wp2_with fail
  refine (HR1.out _).mono ?_
  rintro e w2 ⟨rfl, hb2⟩
  have HM1' := Lib.hid (HM1.out.below hb2 HM1.out.lt)
  have HM2' := Lib.hid (HM2.out.below hb2 HM2.out.lt)
  have HZ' := Lib.hid (HZ.out.below hb2 HZ.out.lt)
  have HAL' := Lib.hid (HAL.out.via hb2)
  have a0 := HM1'.out.cell 0
  have a1 := HM1'.out.cell 1
  have b0 := HM2'.out.cell 0
  have b1 := HM2'.out.cell 1
  have b2 := HM2'.out.cell 2
  simp only [List.getElem?_toArray, List.getElem?_cons_zero, List.getElem?_cons_succ] at a0 a1 b0 b1 b2
  clear hb2 HM1 HM2 HZ HAL HR1
  go_wp2_with fail
  refine (HR2.out _).mono ?_
  rintro e w3 ⟨rfl, hb3⟩
  have HM1 := Lib.hid (HM1'.out.below hb3 HM1'.out.lt)
  have HM2 := Lib.hid (HM2'.out.below hb3 HM2'.out.lt)
  have HZ := Lib.hid (HZ'.out.below hb3 HZ'.out.lt)
  have HAL := Lib.hid (HAL'.out.via hb3)
  clear a0 a1 b0 b1 b2 hb3 HM1' HM2' HZ' HAL' HR2
  have a0 := HM1.out.cell 0
  have a1 := HM1.out.cell 1
  have b0 := HM2.out.cell 0
  have b1 := HM2.out.cell 1
  simp only [List.getElem?_toArray, List.getElem?_cons_zero, List.getElem?_cons_succ] at a0 a1 b0 b1
  have hsz3 := HAL.out.size
  have hlt1 := HM1.out.lt
  have hlt2 := HM2.out.lt
  have hltZ := HZ.out.lt
  have H0 : Hid (TuI w w3.heap.size ra cb F 0 none 0 (w3.alloc (.cells #[.int .i64 ra, .int .i64 cb, .slice none 0 0] 24))) := Lib.hid ⟨Blk.new _ _ _, World.ownsRow_nil _ _ _ _, HAL.out.alloc hsz3 _, hsz3⟩
  have HM1 := Lib.hid (HM1.out.alloc (.cells #[.int .i64 ra, .int .i64 cb, .slice none 0 0] 24))
  have HM2 := Lib.hid (HM2.out.alloc (.cells #[.int .i64 ra, .int .i64 cb, .slice none 0 0] 24))
  have HZ := Lib.hid (HZ.out.alloc (.cells #[.int .i64 ra, .int .i64 cb, .slice none 0 0] 24))
  go_upto_region 4 with fail
  generalize w3.alloc _ = w4 at *
  generalize w3.heap.size = go at *
  clear a0 a1 b0 b1 HAL
  have HI0 : Hid (MuI w go ra cb F #[.int .i64 ra, .int .i64 ca, .slice A1 n1 k1] #[.int .i64 ca, .int .i64 cb, .slice A2 n2 k2] 0 none 0 w4) := Lib.hid ⟨H0.out, HM1.out, HM2.out, HZ.out⟩
  clear H0 HM1 HM2 HZ
  go_wp2
  go_loopw [7] (fun i wr => ∃ (p : Nat) (A' : Option Addr) (c' : Nat), i = .int .i64 p ∧ p ≤ ra ∧ Hid (MuI w go ra cb F #[.int .i64 ra, .int .i64 ca, .slice A1 n1 k1] #[.int .i64 ca, .int .i64 cb, .slice A2 n2 k2] (p * cb) A' c' wr)) (fun i _ => ra - (intOf i).toNat)
  case atStart => exact ⟨0, none, 0, rfl, Nat.zero_le _, by rw [Nat.zero_mul]; exact HI0⟩
  case round =>
    clear HI0
    obtain ⟨p, A', c', rfl, hp, hI⟩ := hrel
    have a0 := hI.out.m1.cell 0
    simp only [List.getElem?_toArray, List.getElem?_cons_zero, List.getElem?_cons_succ] at a0
    by_cases hlt : p < ra
    · go_wp2
      clear a0
      go_loopw [8] (fun i wr => ∃ (q : Nat) (A' : Option Addr) (c' : Nat), i = .int .i64 q ∧ q ≤ cb ∧ Hid (MuI w go ra cb F #[.int .i64 ra, .int .i64 ca, .slice A1 n1 k1] #[.int .i64 ca, .int .i64 cb, .slice A2 n2 k2] (p * cb + q) A' c' wr)) (fun i _ => cb - (intOf i).toNat)
      case atStart => exact ⟨0, A', c', rfl, Nat.zero_le _, hI⟩
      case round =>
        clear hI
        obtain ⟨q, A', c', rfl, hq, hI⟩ := hrel
        have b1 := hI.out.m2.cell 1
        simp only [List.getElem?_toArray, List.getElem?_cons_zero, List.getElem?_cons_succ] at b1
        by_cases hlq : q < cb
        · go_wp2
          clear b1
          go_loopw [9, 10] (fun v i wr => ∃ j : Nat, v = .int .u8 (((Lin.sm j (fun l => Lin.gm (Lin.fl ca as_ p l) (Lin.fl cb bs l q))).toNat : Nat) : Int) ∧ i = .int .i64 j ∧ j ≤ ca ∧ Hid (MuI w go ra cb F #[.int .i64 ra, .int .i64 ca, .slice A1 n1 k1] #[.int .i64 ca, .int .i64 cb, .slice A2 n2 k2] (p * cb + q) A' c' wr)) (fun _ i _ => ca - (intOf i).toNat)
          case atStart => exact ⟨0, rfl, rfl, Nat.zero_le _, hI⟩
          case round =>
            clear hI
            obtain ⟨j, rfl, rfl, hj, hI⟩ := hrel
            have a1 := hI.out.m1.cell 1
            simp only [List.getElem?_toArray, List.getElem?_cons_zero, List.getElem?_cons_succ] at a1
            by_cases hlj : j < ca
            · have hlm1 := hI.out.m1.lt
              have hlm2 := hI.out.m2.lt
              have hc0 : Hid (wr.cell? ⟨w.heap.size, 0, none⟩ = some (.int .i64 (ra : Int))) := Lib.hid (hI.out.m1.cell 0)
              have hc1 : Hid (wr.cell? ⟨w.heap.size, 1, none⟩ = some (.int .i64 (ca : Int))) := Lib.hid (hI.out.m1.cell 1)
              have hc2 : Hid (wr.cell? ⟨w.heap.size, 2, none⟩ = some (.slice A1 n1 k1)) := Lib.hid (hI.out.m1.cell 2)
              have hd0 : Hid (wr.cell? ⟨w.heap.size + 1, 0, none⟩ = some (.int .i64 (ca : Int))) := Lib.hid (hI.out.m2.cell 0)
              have hd1 : Hid (wr.cell? ⟨w.heap.size + 1, 1, none⟩ = some (.int .i64 (cb : Int))) := Lib.hid (hI.out.m2.cell 1)
              have hd2 : Hid (wr.cell? ⟨w.heap.size + 1, 2, none⟩ = some (.slice A2 n2 k2)) := Lib.hid (hI.out.m2.cell 2)
              have HBW := Lib.hid hI.out.tu.below
              have HXA := Lib.hid fun W (hW : Below wr.drew.heap.size wr.drew W) => HA4.out p j hlt hlj W ((below_drewN HBW.out 1).trans (hW.mono HBW.out.size))
              have HXB := Lib.hid fun W (hW : Below wr.drew.heap.size wr.drew W) => HB4.out j q hlj hlq W ((below_drewN HBW.out 1).trans (hW.mono HBW.out.size))
              have HSM : Hid (Lin.sm (j + 1) (fun l => Lin.gm (Lin.fl ca as_ p l) (Lin.fl cb bs l q)) = Lin.sm j (fun l => Lin.gm (Lin.fl ca as_ p l) (Lin.fl cb bs l q)) ^^^ Lin.gm (Lin.fl ca as_ p j) (Lin.fl cb bs j q)) := Lib.hid rfl
              generalize Lin.sm j (fun l => Lin.gm (Lin.fl ca as_ p l) (Lin.fl cb bs l q)) = s at *
              generalize Lin.fl ca as_ p j = x at *
              generalize Lin.fl cb bs j q = y at *
              have HMU := Lib.hid fun W => refMul3 x.toNat y.toNat x.toNat_lt y.toNat_lt W
              have hxr := u8_xor_gm s x y
              have HB0 : Hid (Below wr.drew.heap.size wr.drew wr.drew) := Lib.hid (Below.refl _ _)
              have HII := Lib.hid hI.out
              clear hI
              go_wp2
              clear a1
              refine wp_region_held_drew (S := (fun wQq => Below (World.heap (wr.drew)).size (wr.drew) wQq)) (by kernel_rfl) (by exact Below.refl _ _) (fun _ => ?_)
              refine wpAnyH_take (i := 0) (v := ?_) rfl (by kernel_rfl) (by kernel_rfl) (by kernel_rfl) (fun _ _ _ h => h) (Or.inl ⟨by rfl, ?_⟩) (Below.refl _ _) ?_
              rotate_left
              · intro wS hSw
                go_simp
                try with_reducible rfl
              try simp only [List.getElem_toArray, List.getElem_cons_zero, List.getElem_cons_succ, Act.put, List.setIfInBounds_toArray, List.set_cons_zero, List.set_cons_succ]
              refine wpAnyH_take (i := 2) (v := ?_) rfl (by kernel_rfl) (by kernel_rfl) (by kernel_rfl) (fun _ _ _ h => h) (Or.inl ⟨by rfl, ?_⟩) (Below.refl _ _) ?_
              rotate_left
              · intro wS hSw
                go_simp
                try with_reducible rfl
              try simp only [List.getElem_toArray, List.getElem_cons_zero, List.getElem_cons_succ, Act.put, List.setIfInBounds_toArray, List.set_cons_zero, List.set_cons_succ]
              refine wpAnyH_take (i := 3) (v := ?_) rfl (by kernel_rfl) (by kernel_rfl) (by kernel_rfl) (fun _ _ _ h => h) (Or.inl ⟨by rfl, ?_⟩) (Below.refl _ _) ?_
              rotate_left
              · intro wS hSw
                go_simp
                try with_reducible rfl
              try simp only [List.getElem_toArray, List.getElem_cons_zero, List.getElem_cons_succ, Act.put, List.setIfInBounds_toArray, List.set_cons_zero, List.set_cons_succ]
              refine wpAnyH_take (i := 6) (v := ?_) rfl (by kernel_rfl) (by kernel_rfl) (by kernel_rfl) (fun _ _ _ h => h) (Or.inl ⟨by rfl, ?_⟩) (Below.refl _ _) ?_
              rotate_left
              · intro wS hSw
                go_simp
                try with_reducible rfl
              try simp only [List.getElem_toArray, List.getElem_cons_zero, List.getElem_cons_succ, Act.put, List.setIfInBounds_toArray, List.set_cons_zero, List.set_cons_succ]
              refine wpAnyH_take (i := 7) (v := ?_) rfl (by kernel_rfl) (by kernel_rfl) (by kernel_rfl) (fun _ _ _ h => h) (Or.inl ⟨by rfl, ?_⟩) (Below.refl _ _) ?_
              rotate_left
              · intro wS hSw
                go_simp
                try with_reducible rfl
              try simp only [List.getElem_toArray, List.getElem_cons_zero, List.getElem_cons_succ, Act.put, List.setIfInBounds_toArray, List.set_cons_zero, List.set_cons_succ]
              refine wpAnyH_take (i := 1) (v := ?_) rfl (by kernel_rfl) (by kernel_rfl) (by kernel_rfl) (fun _ _ _ h => h) (Or.inl ⟨by rfl, ?_⟩) (Below.refl _ _) ?_
              rotate_left
              · intro wS hSw
                have hcv := ((hSw.cell (p := ⟨w.heap.size, 0, none⟩) (by exact hlm1)).trans hc0.out)
                have hcv1 := ((hSw.cell (p := ⟨w.heap.size, 1, none⟩) (by exact hlm1)).trans hc1.out)
                have hcv2 := ((hSw.cell (p := ⟨w.heap.size, 2, none⟩) (by exact hlm1)).trans hc2.out)
                go_simp
                try with_reducible rfl
              try simp only [List.getElem_toArray, List.getElem_cons_zero, List.getElem_cons_succ, Act.put, List.setIfInBounds_toArray, List.set_cons_zero, List.set_cons_succ]
              refine wpAnyH_take (i := 5) (v := ?_) rfl (by kernel_rfl) (by kernel_rfl) (by kernel_rfl) (fun _ _ _ h => h) (Or.inl ⟨by rfl, ?_⟩) (Below.refl _ _) ?_
              rotate_left
              · intro wS hSw
                have hcv := ((hSw.cell (p := ⟨w.heap.size + 1, 0, none⟩) (by exact hlm2)).trans hd0.out)
                have hcv1 := ((hSw.cell (p := ⟨w.heap.size + 1, 1, none⟩) (by exact hlm2)).trans hd1.out)
                have hcv2 := ((hSw.cell (p := ⟨w.heap.size + 1, 2, none⟩) (by exact hlm2)).trans hd2.out)
                go_simp
                try with_reducible rfl
              try simp only [List.getElem_toArray, List.getElem_cons_zero, List.getElem_cons_succ, Act.put, List.setIfInBounds_toArray, List.set_cons_zero, List.set_cons_succ]
              refine wpAnyH_ready (rs := [4]) (by kernel_rfl) (by simp) ?_
              refine AllReadyH.cons rfl (fun K hK => ?_) AllReadyH.nil
              go_simp
              refine (HXA.out _ (by first | exact HB8.out | exact HB0.out)).mono ?_
              rintro e w5 ⟨rfl, hb5⟩
              have HB5 : Hid (Below wr.drew.heap.size wr.drew w5) := Lib.hid (by first | exact HB8.out.via hb5 | exact HB0.out.via hb5)
              clear hb5
              refine hK.out _ _ HB5.out (fun _ => ?_)
              clear hK K
              try simp only [List.getElem_toArray, List.getElem_cons_zero, List.getElem_cons_succ, Act.put, List.setIfInBounds_toArray, List.set_cons_zero, List.set_cons_succ]
              refine wpAnyH_ready (rs := [8]) (by kernel_rfl) (by simp) ?_
              refine AllReadyH.cons rfl (fun K hK => ?_) AllReadyH.nil
              go_simp
              refine (HXB.out _ (by first | exact HB5.out | exact HB0.out)).mono ?_
              rintro e w8 ⟨rfl, hb8⟩
              have HB8 : Hid (Below wr.drew.heap.size wr.drew w8) := Lib.hid (by first | exact HB5.out.via hb8 | exact HB0.out.via hb8)
              clear hb8
              refine hK.out _ _ HB8.out (fun _ => ?_)
              clear hK K
              try simp only [List.getElem_toArray, List.getElem_cons_zero, List.getElem_cons_succ, Act.put, List.setIfInBounds_toArray, List.set_cons_zero, List.set_cons_succ]
              refine wpAnyH_ready (rs := [9]) (by kernel_rfl) (by simp) ?_
              refine AllReadyH.cons rfl (fun K hK => ?_) AllReadyH.nil
              go_simp
              refine (HMU.out _).mono ?_
              rintro e wz ⟨rfl, hz⟩
              subst wz
              refine hK.out _ _ HB8.out (fun _ => ?_)
              clear hK K
              try simp only [List.getElem_toArray, List.getElem_cons_zero, List.getElem_cons_succ, Act.put, List.setIfInBounds_toArray, List.set_cons_zero, List.set_cons_succ]
              refine wpAnyH_take (i := 10) (v := ?_) rfl (by kernel_rfl) (by kernel_rfl) (by kernel_rfl) (fun _ _ _ h => h) (Or.inl ⟨by rfl, ?_⟩) HB8.out ?_
              rotate_left
              · intro wS hSw
                go_simp
                try with_reducible rfl
              try simp only [List.getElem_toArray, List.getElem_cons_zero, List.getElem_cons_succ, Act.put, List.setIfInBounds_toArray, List.set_cons_zero, List.set_cons_succ]
              refine wpAnyH_take (i := 11) (v := ?_) rfl (by kernel_rfl) (by kernel_rfl) (by kernel_rfl) (fun _ _ _ h => h) (Or.inl ⟨by rfl, ?_⟩) HB8.out ?_
              rotate_left
              · intro wS hSw
                go_simp
                try with_reducible rfl
              try simp only [List.getElem_toArray, List.getElem_cons_zero, List.getElem_cons_succ, Act.put, List.setIfInBounds_toArray, List.set_cons_zero, List.set_cons_succ]
              refine wpAnyH_done (by kernel_rfl) ?_ _
              go_wp2
              go_roundw
              case rel => exact ⟨j + 1, (by rw [HSM.out, UInt8.toNat_xor]), by go_num, hlj, Lib.hid (HII.out.via ((below_drewN (Below.refl _ _) 1).trans (by first | exact HB8.out | exact HB5.out)))⟩
              case measure => simp [intOf]; omega
            · obtain rfl : j = ca := by omega
              have HX : Hid (F[p * cb + q]? = some (Lin.sm j (fun l => Lin.gm (Lin.fl j as_ p l) (Lin.fl cb bs l q)))) := Lib.hid (HTG.out p q hlt hlq)
              have hlim : p * cb + q < ra * cb := Lin.lt_of_rc hlt hlq
              generalize Lin.sm j (fun l => Lin.gm (Lin.fl j as_ p l) (Lin.fl cb bs l q)) = x at *
              have hcm : wr.cell? ⟨go, 2, none⟩ = some (.slice A' (p * cb + q) c') := hI.out.tu.blk.cell 2
              have hsz := hI.out.tu.below.size
              have hgl := hI.out.tu.blk.lt
              have HII := Lib.hid hI.out
              clear hI
              go_wp2_with (at_builtin; go_loud (refine appB _ rfl (.tmp 62) (.tmp 64) rfl w.heap.size A' (p * cb + q) c' ((F.take (p * cb + q)).map bv) rfl ((HII.out.tu.own).alloc _) _ (some ⟨wr.heap.size, 0, none⟩) 1 1 [bv x] rfl rfl (Rd.new wr _ _ _ rfl) one_byte (by omega) (by simp; omega) ?_; intro A3 c3 w3 ho3 hg3 hb3; have hk3 := HII.out.tu.kept hg3 HII.out.tu.blk (by decide); have hcm4 := hk3.cell 2; rw [show (mv (ra : Int) (cb : Int) A' (p * cb + q) c')[2]? = some (.slice A' (p * cb + q) c') from rfl] at hcm4; have hfm4 := hk3.frozen 2; have HI4 := Lib.hid (⟨HII.out.tu.push HX.out rfl ho3 hg3, HII.out.tu.other hg3 HII.out.m1 (by decide) (by omega) _, HII.out.tu.other hg3 HII.out.m2 (by decide) (by omega) _, HII.out.tu.other hg3 HII.out.z (by decide) (by omega) _⟩ : MuI w go ra cb F #[.int .i64 ra, .int .i64 j, .slice A1 n1 k1] #[.int .i64 j, .int .i64 cb, .slice A2 n2 k2] (p * cb + q + 1) A3 c3 (w3.setCell ⟨go, 0 + 2, none⟩ (.slice A3 (p * cb + q + 1) c3))); clear hk3 ho3 hg3 hb3))
              go_roundw
              case rel => exact ⟨q + 1, A3, c3, by go_num, hlq, HI4⟩
              case measure => simp [intOf]; omega
        · obtain rfl : q = cb := by omega
          have hI2 : Hid (MuI w go ra q F #[.int .i64 ra, .int .i64 ca, .slice A1 n1 k1] #[.int .i64 ca, .int .i64 q, .slice A2 n2 k2] ((p + 1) * q) A' c' wr) := Lib.hid (by rw [Nat.succ_mul]; exact hI.out)
          clear hI
          go_wp2
          go_roundw
          case rel => exact ⟨p + 1, A', c', by go_num, hlt, hI2⟩
          case measure => simp [intOf]; omega
    · obtain rfl : p = ra := by omega
      have hb := hI.out.tu.blk
      have hz := hI.out.z
      have HII := Lib.hid hI.out.tu
      have HNE : Hid ((Value.slice A' (p * cb) c').ownBlock ≠ some (w.heap.size + 1 + 1)) := Lib.hid fun he => by
        have := Ty.one (own_blockV HII.out.own he).1 hz.ty
        exact absurd this (by decide)
      clear hI hlt
      go_wp2_with (first | (refine wpList_load_row rfl 24 (.tmp 6) rfl go rfl 24 (mv p cb A' (p * cb) c') (0, 0) _ hb Try.underlying24 rfl matInfo3 ?_) | (refine wpList_store_row rfl 24 (.tmp 4) (.tmp 67) rfl (w.heap.size + 1 + 1) (mv p cb A' (p * cb) c') rfl rfl 24 #[.int .i64 0, .int .i64 0, .slice none 0 0] hz matInfo3 rfl (mv_one _ _ _ _ _) ?_))
      refine bodyPost_ret (results_mat2 (g := w.heap.size + 1 + 1) (te := 24) (cs := mv p cb A' (p * cb) c') (fr := (0, 0)) rfl _ _ _ rfl (hz.row _) Try.underlying24 rfl matInfo3) rfl ⟨A', c', rfl, HTL.out, ?_, below_setRow HII.out.below (by omega) _⟩
      have ho := HII.out.own
      rw [List.take_of_length_le (by rw [HTL.out]; exact Nat.le_refl _)] at ho
      exact own_setRow ho HNE.out _
end Cib
