/- The document's Turned. -/
import Derived.Test.YtnicfpkadiamaaaMatV
set_option linter.unusedVariables false
set_option linter.unusedSimpArgs false
set_option maxRecDepth 40000
namespace Cib
open Go Go.RowKit Go.Proofs
/-- A matrix made, by itself. -/
def NewT (r c : Nat) (bs : List UInt8) (w : World) (e : Ending) (w' : World) : Prop :=
  ∃ A k, e = .returned (.agg (mv r c A (r * c) k)) ∧ bs.length = r * c ∧ w'.ownsRow w.heap.size 5 1 (.slice A (r * c) k) (r * c) (bs.map bv) ∧ Below w.heap.size w w'
theorem tab_get? {cols p : Nat} {val : Nat → Nat → UInt8} {i j : Nat} (hj : j < cols) (h : i * cols + j < p) : (tabN cols val p)[i * cols + j]? = some (val i j) := by
  have h' : i * cols + j < (tabN cols val p).length := by rw [tabN_length]; exact h
  rw [List.getElem?_eq_getElem h', tabN_get]
  have h1 : (i * cols + j) / cols = i := by
    rw [Nat.mul_comm, Nat.mul_add_div (by omega)]
    simp [Nat.div_eq_of_lt hj]
  have h2 : (i * cols + j) % cols = j := by
    rw [Nat.mul_comm, Nat.mul_add_mod]
    exact Nat.mod_eq_of_lt hj
  rw [h1, h2]
/-- A result that is one struct in memory. -/
theorem results_mat1 {P : Program} {fn : Func} {p : Tmp} {ty : TypeId} (h : fn.results = #[.cell p ty]) (tmps : Array Value) (w : World) (g : Nat) (te : TypeId) (cs : Array Value) (fr : Nat × Nat) (d : TypeDesc)
    (hp : tmps.getD p undef = .pointer (some ⟨g, 0, none⟩)) (hg : w.heap[g]? = some (.cells cs te fr))
    (hu : P.underlying ty = some d) (hd : (match d with | .struct _ | .array _ _ => true | _ => false) = true) (hi : (P.info? ty).map (·.size) = some cs.size) :
    (results fn tmps).run P w = .ok (.agg cs) w := by
  have hp' : tmps[p]?.getD undef = .pointer (some ⟨g, 0, none⟩) := by simpa using hp
  simp [results, h, hp', asAddr, run_loadVar_row w g te ty cs fr d hg hu hd hi]
set_option maxHeartbeats 4000000 in
theorem refTurned4 (r c : Nat) (A : Option Addr) (n k : Nat) (bs : List UInt8) (w : World) (B : Nat) (hB : B ≤ w.heap.size) (hr : Rd w B A (bs.map bv)) (hbs : bs.length = r * c) (hn : n = r * c) (hk : n ≤ k) (hr1 : 1 ≤ r) (hr2 : r ≤ 255) (hc1 : 1 ≤ c) (hc2 : c ≤ 255) :
    Calls Try.prog 19 #[.agg (mv r c A n k)] w (NewT c r (Lin.turnL r c bs) w) := by
  have hnn : c * r ≤ 65025 := Nat.mul_le_mul hc2 hr2
  have hmr : mr (r : Int) (c : Int) (r * c) = true := mr_true.2 ⟨by omega, by omega, by simp⟩
  have HAT := Lib.hid fun (i j : Nat) (hi : i < r) (hj : j < c) (W : World) (hW : Below w.heap.size w W) => refAt4 (r : Int) (c : Int) A n k bs (i : Int) (j : Int) W B (Nat.le_trans hB hW.size) (hr.below (hW.mono hB)) (by omega) hk
  have HIN := Lib.hid fun (i j : Nat) (hi : i < r) (hj : j < c) => (by rw [hn]; exact atN_in hmr hi hj : atN (r : Int) (c : Int) n bs (i : Int) (j : Int) = Lin.fl c bs i j)
  have HTG := Lib.hid fun (i j : Nat) (hi : i < r) (hj : j < c) => (tab_get? (cols := r) (p := c * r) (val := fun j i => Lin.fl c bs i j) (i := j) (j := i) hi (Lin.lt_of_rc hj hi))
  have HTL := Lib.hid (Lin.turnL_length r c bs)
  have hmat := Lib.hid (((Blk.new w 24 (mv r c A n k)).alloc (.cells (mv 0 0 none 0 0) 24)).alloc (.cells (mv c r none 0 0) 24))
  have H0 : Hid (TuI w (w.heap.size + 1 + 1) c r (Lin.turnL r c bs) 0 none 0 (((w.alloc (.cells (mv r c A n k) 24)).alloc (.cells (mv 0 0 none 0 0) 24)).alloc (.cells (mv c r none 0 0) 24))) := by
    refine Lib.hid ⟨?_, World.ownsRow_nil _ _ _ _, (((Below.refl _ _).alloc (Nat.le_refl _) _).alloc (by simp) _).alloc (by simp; omega) _, by omega⟩
    have := Blk.new ((w.alloc (.cells (mv r c A n k) 24)).alloc (.cells (mv 0 0 none 0 0) 24)) 24 (mv c r none 0 0)
    simpa using this
  have hres : Hid (Blk (((w.alloc (.cells (mv r c A n k) 24)).alloc (.cells (mv 0 0 none 0 0) 24)).alloc (.cells (mv c r none 0 0) 24)) (w.heap.size + 1) 24 (mv 0 0 none 0 0)) := Lib.hid (by
    have := (Blk.new (w.alloc (.cells (mv r c A n k) 24)) 24 (mv 0 0 none 0 0)).alloc (.cells (mv c r none 0 0) 24)
    simpa using this)
  clear hr hbs hn hk hmr
  unfold mv at H0 hmat hres HAT ⊢
  go_enter Try.func19, Try.ntmps19
  go_wp2
  go_loopw [4] (fun i wr => ∃ (p : Nat) (A' : Option Addr) (c' : Nat), i = .int .i64 p ∧ p ≤ c ∧ Hid (TuI w (w.heap.size + 1 + 1) c r (Lin.turnL r c bs) (p * r) A' c' wr) ∧ Hid (Blk wr w.heap.size 24 #[.int .i64 r, .int .i64 c, .slice A n k]) ∧ Hid (Blk wr (w.heap.size + 1) 24 #[.int .i64 0, .int .i64 0, .slice none 0 0])) (fun i _ => c - (intOf i).toNat)
  case atStart => exact ⟨0, none, 0, rfl, Nat.zero_le _, by rw [Nat.zero_mul]; exact H0, hmat, hres⟩
  case round =>
    clear H0 hmat hres
    obtain ⟨p, A', c', rfl, hp, hI, hM, hZ⟩ := hrel
    have m1 := hM.out.cell 1
    simp only [List.getElem?_toArray, List.getElem?_cons_zero, List.getElem?_cons_succ] at m1
    by_cases hlt : p < c
    · go_wp2
      go_loopw [5] (fun i wr => ∃ (q : Nat) (A' : Option Addr) (c' : Nat), i = .int .i64 q ∧ q ≤ r ∧ Hid (TuI w (w.heap.size + 1 + 1) c r (Lin.turnL r c bs) (p * r + q) A' c' wr) ∧ Hid (Blk wr w.heap.size 24 #[.int .i64 r, .int .i64 c, .slice A n k]) ∧ Hid (Blk wr (w.heap.size + 1) 24 #[.int .i64 0, .int .i64 0, .slice none 0 0])) (fun i _ => r - (intOf i).toNat)
      case atStart => exact ⟨0, A', c', rfl, Nat.zero_le _, hI, hM, hZ⟩
      case round =>
        clear hI hM hZ m1
        obtain ⟨q, A', c', rfl, hq, hI, hM, hZ⟩ := hrel
        have m0 := hM.out.cell 0
        simp only [List.getElem?_toArray, List.getElem?_cons_zero, List.getElem?_cons_succ] at m0
        by_cases hlq : q < r
        · have hlim : p * r + q < c * r := Lin.lt_of_rc hlt hlq
          have HC := Lib.hid fun W hW => HAT.out q p hlq hlt W hW
          rw [HIN.out q p hlq hlt] at HC
          have HX : Hid ((Lin.turnL r c bs)[p * r + q]? = some (Lin.fl c bs q p)) := Lib.hid (HTG.out q p hlq hlt)
          generalize Lin.fl c bs q p = x at *
          have hcm := hI.out.blk.cell 2
          rw [show (mv (c : Int) (r : Int) A' (p * r + q) c')[2]? = some (.slice A' (p * r + q) c') from rfl] at hcm
          have hg2 := hI.out.blk.lt
          have hsz := hI.out.below.size
          have HP0 : Hid (wr.drew.cell? ⟨w.heap.size, 0, none⟩ = some (.int .i64 (r : Int)) ∧ wr.drew.cell? ⟨w.heap.size, 1, none⟩ = some (.int .i64 (c : Int)) ∧ wr.drew.cell? ⟨w.heap.size, 2, none⟩ = some (.slice A n k)) := Lib.hid ⟨hM.out.cell 0, hM.out.cell 1, hM.out.cell 2⟩
          have HII := Lib.hid hI.out
          have HMM := Lib.hid hM.out
          have HZZ := Lib.hid hZ.out
          clear hI hM hZ
          go_wp2
          clear m0
          refine wp_region_held_drew (S := (fun wQq => wQq.cell? ⟨w.heap.size, 0, none⟩ = some (.int .i64 (r : Int)) ∧ wQq.cell? ⟨w.heap.size, 1, none⟩ = some (.int .i64 (c : Int)) ∧ wQq.cell? ⟨w.heap.size, 2, none⟩ = some (.slice A n k))) (by kernel_rfl) (HP0.out) (fun _ => ?_)
          refine wpAnyH_take (i := 0) (v := ?_) rfl (by kernel_rfl) (by kernel_rfl) (by kernel_rfl) (fun _ _ _ h => h) (Or.inl ⟨by rfl, ?_⟩) (HP0.out) ?_
          rotate_left
          · intro wS hSw
            go_simp
            try with_reducible rfl
          try simp only [List.getElem_toArray, List.getElem_cons_zero, List.getElem_cons_succ, Act.put, List.setIfInBounds_toArray, List.set_cons_zero, List.set_cons_succ]
          refine wpAnyH_take (i := 3) (v := ?_) rfl (by kernel_rfl) (by kernel_rfl) (by kernel_rfl) (fun _ _ _ h => h) (Or.inl ⟨by rfl, ?_⟩) (HP0.out) ?_
          rotate_left
          · intro wS hSw
            go_simp
            try with_reducible rfl
          try simp only [List.getElem_toArray, List.getElem_cons_zero, List.getElem_cons_succ, Act.put, List.setIfInBounds_toArray, List.set_cons_zero, List.set_cons_succ]
          refine wpAnyH_take (i := 4) (v := ?_) rfl (by kernel_rfl) (by kernel_rfl) (by kernel_rfl) (fun _ _ _ h => h) (Or.inl ⟨by rfl, ?_⟩) (HP0.out) ?_
          rotate_left
          · intro wS hSw
            go_simp
            try with_reducible rfl
          try simp only [List.getElem_toArray, List.getElem_cons_zero, List.getElem_cons_succ, Act.put, List.setIfInBounds_toArray, List.set_cons_zero, List.set_cons_succ]
          refine wpAnyH_take (i := 2) (v := ?_) rfl (by kernel_rfl) (by kernel_rfl) (by kernel_rfl) (fun _ _ _ h => h) (Or.inl ⟨by rfl, ?_⟩) (HP0.out) ?_
          rotate_left
          · intro wS hSw
            have hcv := hSw.1
            have hcv1 := hSw.2.1
            have hcv2 := hSw.2.2
            go_simp
            try with_reducible rfl
          try simp only [List.getElem_toArray, List.getElem_cons_zero, List.getElem_cons_succ, Act.put, List.setIfInBounds_toArray, List.set_cons_zero, List.set_cons_succ]
          refine wpAnyH_ready (rs := [1, 5]) (by kernel_rfl) (by simp) ?_
          refine AllReadyH.cons rfl (fun K hK => ?_) (AllReadyH.cons rfl (fun K hK => ?_) AllReadyH.nil)
          · go_simp
            refine hK.out _ _ (by first | exact HP0.out | exact HP2.out | exact HPA.out) (fun _ => ?_)
            clear hK K
            try simp only [List.getElem_toArray, List.getElem_cons_zero, List.getElem_cons_succ, Act.put, List.setIfInBounds_toArray, List.set_cons_zero, List.set_cons_succ]
            refine wpAnyH_ready (rs := [5]) (by kernel_rfl) (by simp) ?_
            refine AllReadyH.cons rfl (fun K hK => ?_) AllReadyH.nil
            go_simp
            refine (HC.out wr.drew (below_drewN HII.out.below 1)).mono ?_
            rintro e w2 ⟨rfl, hb2⟩
            have hb2' : Below wr.heap.size wr w2 := (below_drewN (Below.refl _ _) 1).trans hb2
            have HI2 := Lib.hid (HII.out.via hb2')
            have HM2 := Lib.hid (HMM.out.below hb2' HMM.out.lt)
            have HZ2 := Lib.hid (HZZ.out.below hb2' HZZ.out.lt)
            have HP2 : Hid (w2.cell? ⟨w.heap.size, 0, none⟩ = some (.int .i64 (r : Int)) ∧ w2.cell? ⟨w.heap.size, 1, none⟩ = some (.int .i64 (c : Int)) ∧ w2.cell? ⟨w.heap.size, 2, none⟩ = some (.slice A n k)) := Lib.hid ⟨HM2.out.cell 0, HM2.out.cell 1, HM2.out.cell 2⟩
            have HPA : Hid ((w2.alloc (.cells #[.int .u8 (x.toNat : Int)] 5)).cell? ⟨w.heap.size, 0, none⟩ = some (.int .i64 (r : Int)) ∧ (w2.alloc (.cells #[.int .u8 (x.toNat : Int)] 5)).cell? ⟨w.heap.size, 1, none⟩ = some (.int .i64 (c : Int)) ∧ (w2.alloc (.cells #[.int .u8 (x.toNat : Int)] 5)).cell? ⟨w.heap.size, 2, none⟩ = some (.slice A n k)) := Lib.hid ⟨(HM2.out.alloc _).cell 0, (HM2.out.alloc _).cell 1, (HM2.out.alloc _).cell 2⟩
            have hs2 : w.heap.size ≤ w2.heap.size := HI2.out.below.size
            have hcm3 : w2.cell? ⟨w.heap.size + 1 + 1, 2, none⟩ = some (.slice A' (p * r + q) c') := HI2.out.blk.cell 2
            have hcm5 : (w2.alloc (.cells #[.int .u8 (x.toNat : Int)] 5)).cell? ⟨w.heap.size + 1 + 1, 2, none⟩ = some (.slice A' (p * r + q) c') := (HI2.out.blk.alloc _).cell 2
            have hlt2 := HI2.out.blk.lt
            clear hb2 hb2'
            refine hK.out _ _ HP2.out (fun _ => ?_)
            clear hK K
            try simp only [List.getElem_toArray, List.getElem_cons_zero, List.getElem_cons_succ, Act.put, List.setIfInBounds_toArray, List.set_cons_zero, List.set_cons_succ]
            refine wpAnyH_ready (rs := [6]) (by kernel_rfl) (by simp) ?_
            refine AllReadyH.cons rfl (fun K hK => ?_) AllReadyH.nil
            go_simp
            refine hK.out _ _ HPA.out (fun _ => ?_)
            clear hK K
            try simp only [List.getElem_toArray, List.getElem_cons_zero, List.getElem_cons_succ, Act.put, List.setIfInBounds_toArray, List.set_cons_zero, List.set_cons_succ]
            refine wpAnyH_ready (rs := [7]) (by kernel_rfl) (by simp) ?_
            refine AllReadyH.cons rfl (fun K hK => ?_) AllReadyH.nil
            refine wp_appB (.tmp 24) (.tmp 29) rfl w.heap.size A' (p * r + q) c' (((Lin.turnL r c bs).take (p * r + q)).map bv) rfl ((HI2.out.own).alloc _) _ (some ⟨w2.heap.size, 0, none⟩) 1 1 [bv x] rfl rfl (Rd.new w2 _ _ _ rfl) one_byte (by omega) (by simp; omega) ?_
            intro A3 c3 w3 ho3 hg3 hb3
            have hk3 := HI2.out.kept hg3 HI2.out.blk (by decide)
            have hcm4 := hk3.cell 2
            rw [show (mv (c : Int) (r : Int) A' (p * r + q) c')[2]? = some (.slice A' (p * r + q) c') from rfl] at hcm4
            have hfm4 := hk3.frozen 2
            have HI4 := Lib.hid (HI2.out.push HX.out rfl ho3 hg3)
            have HM3 := Lib.hid (HI2.out.kept hg3 HM2.out (by decide))
            have HM4 := Lib.hid (HI2.out.other hg3 HM2.out (by decide) (by omega) (.slice A3 (p * r + q + 1) c3))
            have HZ4 := Lib.hid (HI2.out.other hg3 HZ2.out (by decide) (by omega) (.slice A3 (p * r + q + 1) c3))
            have HP4 : Hid (w3.cell? ⟨w.heap.size, 0, none⟩ = some (.int .i64 (r : Int)) ∧ w3.cell? ⟨w.heap.size, 1, none⟩ = some (.int .i64 (c : Int)) ∧ w3.cell? ⟨w.heap.size, 2, none⟩ = some (.slice A n k)) := Lib.hid ⟨HM3.out.cell 0, HM3.out.cell 1, HM3.out.cell 2⟩
            clear hk3 ho3 hg3 hb3
            refine hK.out _ _ HP4.out (fun _ => ?_)
            clear hK K
            try simp only [List.getElem_toArray, List.getElem_cons_zero, List.getElem_cons_succ, Act.put, List.setIfInBounds_toArray, List.set_cons_zero, List.set_cons_succ]
            refine wpAnyH_take (i := 8) (v := ?_) rfl (by kernel_rfl) (by kernel_rfl) (by kernel_rfl) (fun _ _ _ h => h) (Or.inl ⟨by rfl, ?_⟩) HP4.out ?_
            rotate_left
            · intro wS hSw
              go_simp
              try with_reducible rfl
            try simp only [List.getElem_toArray, List.getElem_cons_zero, List.getElem_cons_succ, Act.put, List.setIfInBounds_toArray, List.set_cons_zero, List.set_cons_succ]
            refine wpAnyH_ready (rs := [9]) (by kernel_rfl) (by simp) ?_
            refine AllReadyH.cons rfl (fun K hK => ?_) AllReadyH.nil
            go_simp
            refine hK.out _ _ ⟨HM4.out.cell 0, HM4.out.cell 1, HM4.out.cell 2⟩ (fun _ => ?_)
            clear hK K
            try simp only [List.getElem_toArray, List.getElem_cons_zero, List.getElem_cons_succ, Act.put, List.setIfInBounds_toArray, List.set_cons_zero, List.set_cons_succ]
            refine wpAnyH_done (by kernel_rfl) ?_ _
            go_wp2
            go_roundw
            case rel => exact ⟨q + 1, A3, c3, by go_num, hlq, HI4, HM4, HZ4⟩
            case measure => simp [intOf]; omega
          · go_simp
            refine (HC.out wr.drew (below_drewN HII.out.below 1)).mono ?_
            rintro e w2 ⟨rfl, hb2⟩
            have hb2' : Below wr.heap.size wr w2 := (below_drewN (Below.refl _ _) 1).trans hb2
            have HI2 := Lib.hid (HII.out.via hb2')
            have HM2 := Lib.hid (HMM.out.below hb2' HMM.out.lt)
            have HZ2 := Lib.hid (HZZ.out.below hb2' HZZ.out.lt)
            have HP2 : Hid (w2.cell? ⟨w.heap.size, 0, none⟩ = some (.int .i64 (r : Int)) ∧ w2.cell? ⟨w.heap.size, 1, none⟩ = some (.int .i64 (c : Int)) ∧ w2.cell? ⟨w.heap.size, 2, none⟩ = some (.slice A n k)) := Lib.hid ⟨HM2.out.cell 0, HM2.out.cell 1, HM2.out.cell 2⟩
            have HPA : Hid ((w2.alloc (.cells #[.int .u8 (x.toNat : Int)] 5)).cell? ⟨w.heap.size, 0, none⟩ = some (.int .i64 (r : Int)) ∧ (w2.alloc (.cells #[.int .u8 (x.toNat : Int)] 5)).cell? ⟨w.heap.size, 1, none⟩ = some (.int .i64 (c : Int)) ∧ (w2.alloc (.cells #[.int .u8 (x.toNat : Int)] 5)).cell? ⟨w.heap.size, 2, none⟩ = some (.slice A n k)) := Lib.hid ⟨(HM2.out.alloc _).cell 0, (HM2.out.alloc _).cell 1, (HM2.out.alloc _).cell 2⟩
            have hs2 : w.heap.size ≤ w2.heap.size := HI2.out.below.size
            have hcm3 : w2.cell? ⟨w.heap.size + 1 + 1, 2, none⟩ = some (.slice A' (p * r + q) c') := HI2.out.blk.cell 2
            have hcm5 : (w2.alloc (.cells #[.int .u8 (x.toNat : Int)] 5)).cell? ⟨w.heap.size + 1 + 1, 2, none⟩ = some (.slice A' (p * r + q) c') := (HI2.out.blk.alloc _).cell 2
            have hlt2 := HI2.out.blk.lt
            clear hb2 hb2'
            refine hK.out _ _ HP2.out (fun _ => ?_)
            clear hK K
            try simp only [List.getElem_toArray, List.getElem_cons_zero, List.getElem_cons_succ, Act.put, List.setIfInBounds_toArray, List.set_cons_zero, List.set_cons_succ]
            refine wpAnyH_ready (rs := [1, 6]) (by kernel_rfl) (by simp) ?_
            refine AllReadyH.cons rfl (fun K hK => ?_) (AllReadyH.cons rfl (fun K hK => ?_) AllReadyH.nil)
            · go_simp
              refine hK.out _ _ (by first | exact HP0.out | exact HP2.out | exact HPA.out) (fun _ => ?_)
              clear hK K
              try simp only [List.getElem_toArray, List.getElem_cons_zero, List.getElem_cons_succ, Act.put, List.setIfInBounds_toArray, List.set_cons_zero, List.set_cons_succ]
              refine wpAnyH_ready (rs := [6]) (by kernel_rfl) (by simp) ?_
              refine AllReadyH.cons rfl (fun K hK => ?_) AllReadyH.nil
              go_simp
              refine hK.out _ _ HPA.out (fun _ => ?_)
              clear hK K
              try simp only [List.getElem_toArray, List.getElem_cons_zero, List.getElem_cons_succ, Act.put, List.setIfInBounds_toArray, List.set_cons_zero, List.set_cons_succ]
              refine wpAnyH_ready (rs := [7]) (by kernel_rfl) (by simp) ?_
              refine AllReadyH.cons rfl (fun K hK => ?_) AllReadyH.nil
              refine wp_appB (.tmp 24) (.tmp 29) rfl w.heap.size A' (p * r + q) c' (((Lin.turnL r c bs).take (p * r + q)).map bv) rfl ((HI2.out.own).alloc _) _ (some ⟨w2.heap.size, 0, none⟩) 1 1 [bv x] rfl rfl (Rd.new w2 _ _ _ rfl) one_byte (by omega) (by simp; omega) ?_
              intro A3 c3 w3 ho3 hg3 hb3
              have hk3 := HI2.out.kept hg3 HI2.out.blk (by decide)
              have hcm4 := hk3.cell 2
              rw [show (mv (c : Int) (r : Int) A' (p * r + q) c')[2]? = some (.slice A' (p * r + q) c') from rfl] at hcm4
              have hfm4 := hk3.frozen 2
              have HI4 := Lib.hid (HI2.out.push HX.out rfl ho3 hg3)
              have HM3 := Lib.hid (HI2.out.kept hg3 HM2.out (by decide))
              have HM4 := Lib.hid (HI2.out.other hg3 HM2.out (by decide) (by omega) (.slice A3 (p * r + q + 1) c3))
              have HZ4 := Lib.hid (HI2.out.other hg3 HZ2.out (by decide) (by omega) (.slice A3 (p * r + q + 1) c3))
              have HP4 : Hid (w3.cell? ⟨w.heap.size, 0, none⟩ = some (.int .i64 (r : Int)) ∧ w3.cell? ⟨w.heap.size, 1, none⟩ = some (.int .i64 (c : Int)) ∧ w3.cell? ⟨w.heap.size, 2, none⟩ = some (.slice A n k)) := Lib.hid ⟨HM3.out.cell 0, HM3.out.cell 1, HM3.out.cell 2⟩
              clear hk3 ho3 hg3 hb3
              refine hK.out _ _ HP4.out (fun _ => ?_)
              clear hK K
              try simp only [List.getElem_toArray, List.getElem_cons_zero, List.getElem_cons_succ, Act.put, List.setIfInBounds_toArray, List.set_cons_zero, List.set_cons_succ]
              refine wpAnyH_take (i := 8) (v := ?_) rfl (by kernel_rfl) (by kernel_rfl) (by kernel_rfl) (fun _ _ _ h => h) (Or.inl ⟨by rfl, ?_⟩) HP4.out ?_
              rotate_left
              · intro wS hSw
                go_simp
                try with_reducible rfl
              try simp only [List.getElem_toArray, List.getElem_cons_zero, List.getElem_cons_succ, Act.put, List.setIfInBounds_toArray, List.set_cons_zero, List.set_cons_succ]
              refine wpAnyH_ready (rs := [9]) (by kernel_rfl) (by simp) ?_
              refine AllReadyH.cons rfl (fun K hK => ?_) AllReadyH.nil
              go_simp
              refine hK.out _ _ ⟨HM4.out.cell 0, HM4.out.cell 1, HM4.out.cell 2⟩ (fun _ => ?_)
              clear hK K
              try simp only [List.getElem_toArray, List.getElem_cons_zero, List.getElem_cons_succ, Act.put, List.setIfInBounds_toArray, List.set_cons_zero, List.set_cons_succ]
              refine wpAnyH_done (by kernel_rfl) ?_ _
              go_wp2
              go_roundw
              case rel => exact ⟨q + 1, A3, c3, by go_num, hlq, HI4, HM4, HZ4⟩
              case measure => simp [intOf]; omega
            · go_simp
              refine hK.out _ _ HPA.out (fun _ => ?_)
              clear hK K
              try simp only [List.getElem_toArray, List.getElem_cons_zero, List.getElem_cons_succ, Act.put, List.setIfInBounds_toArray, List.set_cons_zero, List.set_cons_succ]
              refine wpAnyH_ready (rs := [1]) (by kernel_rfl) (by simp) ?_
              refine AllReadyH.cons rfl (fun K hK => ?_) AllReadyH.nil
              go_simp
              refine hK.out _ _ (by first | exact HP0.out | exact HP2.out | exact HPA.out) (fun _ => ?_)
              clear hK K
              try simp only [List.getElem_toArray, List.getElem_cons_zero, List.getElem_cons_succ, Act.put, List.setIfInBounds_toArray, List.set_cons_zero, List.set_cons_succ]
              refine wpAnyH_ready (rs := [7]) (by kernel_rfl) (by simp) ?_
              refine AllReadyH.cons rfl (fun K hK => ?_) AllReadyH.nil
              refine wp_appB (.tmp 24) (.tmp 29) rfl w.heap.size A' (p * r + q) c' (((Lin.turnL r c bs).take (p * r + q)).map bv) rfl ((HI2.out.own).alloc _) _ (some ⟨w2.heap.size, 0, none⟩) 1 1 [bv x] rfl rfl (Rd.new w2 _ _ _ rfl) one_byte (by omega) (by simp; omega) ?_
              intro A3 c3 w3 ho3 hg3 hb3
              have hk3 := HI2.out.kept hg3 HI2.out.blk (by decide)
              have hcm4 := hk3.cell 2
              rw [show (mv (c : Int) (r : Int) A' (p * r + q) c')[2]? = some (.slice A' (p * r + q) c') from rfl] at hcm4
              have hfm4 := hk3.frozen 2
              have HI4 := Lib.hid (HI2.out.push HX.out rfl ho3 hg3)
              have HM3 := Lib.hid (HI2.out.kept hg3 HM2.out (by decide))
              have HM4 := Lib.hid (HI2.out.other hg3 HM2.out (by decide) (by omega) (.slice A3 (p * r + q + 1) c3))
              have HZ4 := Lib.hid (HI2.out.other hg3 HZ2.out (by decide) (by omega) (.slice A3 (p * r + q + 1) c3))
              have HP4 : Hid (w3.cell? ⟨w.heap.size, 0, none⟩ = some (.int .i64 (r : Int)) ∧ w3.cell? ⟨w.heap.size, 1, none⟩ = some (.int .i64 (c : Int)) ∧ w3.cell? ⟨w.heap.size, 2, none⟩ = some (.slice A n k)) := Lib.hid ⟨HM3.out.cell 0, HM3.out.cell 1, HM3.out.cell 2⟩
              clear hk3 ho3 hg3 hb3
              refine hK.out _ _ HP4.out (fun _ => ?_)
              clear hK K
              try simp only [List.getElem_toArray, List.getElem_cons_zero, List.getElem_cons_succ, Act.put, List.setIfInBounds_toArray, List.set_cons_zero, List.set_cons_succ]
              refine wpAnyH_take (i := 8) (v := ?_) rfl (by kernel_rfl) (by kernel_rfl) (by kernel_rfl) (fun _ _ _ h => h) (Or.inl ⟨by rfl, ?_⟩) HP4.out ?_
              rotate_left
              · intro wS hSw
                go_simp
                try with_reducible rfl
              try simp only [List.getElem_toArray, List.getElem_cons_zero, List.getElem_cons_succ, Act.put, List.setIfInBounds_toArray, List.set_cons_zero, List.set_cons_succ]
              refine wpAnyH_ready (rs := [9]) (by kernel_rfl) (by simp) ?_
              refine AllReadyH.cons rfl (fun K hK => ?_) AllReadyH.nil
              go_simp
              refine hK.out _ _ ⟨HM4.out.cell 0, HM4.out.cell 1, HM4.out.cell 2⟩ (fun _ => ?_)
              clear hK K
              try simp only [List.getElem_toArray, List.getElem_cons_zero, List.getElem_cons_succ, Act.put, List.setIfInBounds_toArray, List.set_cons_zero, List.set_cons_succ]
              refine wpAnyH_done (by kernel_rfl) ?_ _
              go_wp2
              go_roundw
              case rel => exact ⟨q + 1, A3, c3, by go_num, hlq, HI4, HM4, HZ4⟩
              case measure => simp [intOf]; omega
        · obtain rfl : q = r := by omega
          have hI2 : Hid (TuI w (w.heap.size + 1 + 1) c q (Lin.turnL q c bs) ((p + 1) * q) A' c' wr) := Lib.hid (by rw [Nat.succ_mul]; exact hI.out)
          clear hI
          go_wp2
          go_roundw
          case rel => exact ⟨p + 1, A', c', by go_num, hlt, hI2, hM, hZ⟩
          case measure => simp [intOf]; omega
    · obtain rfl : p = c := by omega
      have hb := hI.out.blk
      have hz := hZ.out
      have HII := Lib.hid hI.out
      have HNE : Hid ((Value.slice A' (p * r) c').ownBlock ≠ some (w.heap.size + 1)) := Lib.hid fun he => by
        have := Ty.one (own_blockV HII.out.own he).1 hz.ty
        exact absurd this (by decide)
      clear hI hM hZ hlt
      go_wp2_with (first | (refine wpList_load_row rfl 24 (.tmp 3) rfl (w.heap.size + 1 + 1) rfl 24 (mv p r A' (p * r) c') (0, 0) _ hb Try.underlying24 rfl matInfo3 ?_) | (refine wpList_store_row rfl 24 (.tmp 2) (.tmp 32) rfl (w.heap.size + 1) (mv p r A' (p * r) c') rfl rfl 24 #[.int .i64 0, .int .i64 0, .slice none 0 0] hz matInfo3 rfl (mv_one _ _ _ _ _) ?_))
      refine bodyPost_ret (results_mat1 (g := w.heap.size + 1) (te := 24) (cs := mv p r A' (p * r) c') (fr := (0, 0)) rfl _ _ _ rfl (hz.row _) Try.underlying24 rfl matInfo3) rfl ⟨A', c', rfl, HTL.out, ?_, below_setRow HII.out.below (by omega) _⟩
      have ho := HII.out.own
      rw [List.take_of_length_le (by rw [HTL.out]; exact Nat.le_refl _)] at ho
      exact own_setRow ho HNE.out _
end Cib
