/- At, Row. -/
import Derived.Test.YtmfilmkdaokbbaaCodX
set_option linter.unusedVariables false
set_option linter.unusedSimpArgs false
set_option maxRecDepth 40000
namespace Cib
open Go Go.RowKit Go.Proofs
set_option maxHeartbeats 1600000 in
theorem matAt (r c i j : Nat) (A : Option Addr) (n k : Nat) (bs : List UInt8) (w : World) (hr : Rd w w.heap.size A (bs.map bv)) (hn : bs.length = n) (hk : n ≤ k) (hm : mr r c n = true) (hi : i < r) (hj : j < c) :
    Calls Try.prog 58 #[.agg (mv r c A n k), .int .i64 (i : Int), .int .i64 (j : Int)] w fun e w' => e = .returned (.int .u8 ((bs.getD (i * c + j) 0).toNat : Int)) ∧ Below w.heap.size w w' := by
  obtain ⟨hm1, hm2, hm3⟩ := mr_true.1 hm
  have hn2 : n = r * c := by
    have : (n : Int) = ((r * c : Nat) : Int) := by rw [hm3]; simp
    omega
  have hrow : (i + 1) * c ≤ n := by rw [hn2]; exact Nat.mul_le_mul_right _ hi
  have hlt : i * c + j < bs.length := by
    rw [hn]
    have : (i + 1) * c = i * c + c := Nat.succ_mul i c
    omega
  have hnb : n ≤ 65025 := by
    have : r * c ≤ 255 * 255 := Nat.mul_le_mul (by omega) (by omega)
    omega
  have hal : Below w.heap.size w (w.alloc (.cells (mv r c A n k) 57)) := (Below.refl _ _).alloc (Nat.le_refl _) _
  have HRI := Lib.hid (fun W => matRight (r : Int) (c : Int) A n k (by omega) W)
  rw [hm] at HRI
  have HRO := Lib.hid (fun W => matRow A n k c i (by omega) hrow (by omega) hk W)
  have hb := Blk.new w 57 (mv r c A n k)
  have HR := Lib.hid (hr.below hal)
  have HAL := Lib.hid hal
  have HB := Lib.hid hb
  have HLT := Lib.hid hlt
  have HN := Lib.hid hn
  clear hr hm hm3 hn2 hal hb hn hlt
  have hi2 : i ≤ 255 := by omega
  have hcc : c ≤ 255 := by omega
  obtain ⟨x, hx⟩ : ∃ x, Hid (bs.getD (i * c + j) 0 = x) := ⟨_, rfl⟩
  rw [hx.out]
  go_enter Try.func58, Try.ntmps58
  unfold mv at *
  go_wp2_with fail
  refine (HRI.out _).mono ?_
  rintro e w1 ⟨rfl, hb1⟩
  have hb2 := HB.out.below hb1 HB.out.lt
  have h0 : w1.cell? ⟨w.heap.size, 0, none⟩ = some (.int .i64 (r : Int)) := hb2.cell 0
  have h1 : w1.cell? ⟨w.heap.size, 1, none⟩ = some (.int .i64 (c : Int)) := hb2.cell 1
  have h2 : w1.cell? ⟨w.heap.size, 2, none⟩ = some (.slice A n k) := hb2.cell 2
  have HR1 := Lib.hid (HR.out.below (hb1.mono (by simp)))
  have HB1 := Lib.hid (HAL.out.trans (hb1.mono (by simp)))
  clear hb1 hb2 HB HR
  go_wp2_with fail
  refine (HRO.out _).mono ?_
  rintro e w' ⟨rfl, rfl⟩
  obtain ⟨ad, rfl, hab, hcell⟩ := HR1.out.byte HLT.out
  have hxe : bs[i * c + j]'HLT.out = x := by rw [← hx.out]; simp [List.getD, HLT.out]
  rw [hxe] at hcell
  have hcut : cut (some ad) ((i + 1) * c) (i * c) = some (ad.add (i * c)) := by
    unfold cut
    rw [if_neg (by have : (i + 1) * c = i * c + c := Nat.succ_mul i c; omega)]
    rfl
  rw [hcut]
  have hcell2 : w'.cell? ((ad.add (i * c)).add j) = some (.int .u8 (x.toNat : Int)) := by rw [addr_add_add]; exact hcell
  generalize ad.add (i * c) = ae at *
  clear hcell hcut hxe hx
  go_wp2
  go_ret
  exact ⟨rfl, HB1.out⟩
theorem Cdr.k0 {w : World} {g gf k m c : Nat} {A : Option Addr} (h : Blk w g 64 (cdC k m gf A c)) : w.cell? ⟨g, 0, none⟩ = some (.int .i64 (k : Int)) := h.cell 0
theorem Cdr.k345 {w : World} {g gf k m c : Nat} {A : Option Addr} (h : Blk w g 64 (cdC k m gf A c)) : w.cell? ⟨g, 3, none⟩ = some (.int .i64 (m : Int)) ∧ w.cell? ⟨g, 4, none⟩ = some (.int .i64 (k : Int)) ∧ w.cell? ⟨g, 5, none⟩ = some (.slice A (m * k) c) := ⟨h.cell 3, h.cell 4, h.cell 5⟩
theorem Cod.facRow_data {k i : Nat} (h : i < k) : (List.replicate k (0 : UInt8)).set i 1 = Cod.facRow k i := by
  apply List.ext_getElem
  · simp [Cod.facRow]
  · intro j h1 h2
    simp only [Cod.facRow, List.getElem_map, List.getElem_range, List.getElem_set, List.getElem_replicate, Cod.fac, if_pos h]
    split <;> rfl
theorem own_ne {w : World} {base g k n c : Nat} {e t : TypeId} {cs : Array Value} {vs : List Value} (h : w.ownsRow base e 1 (.slice (some ⟨g, 0, none⟩) n c) n vs) (hb : Blk w k t cs) (ht : t ≠ e) : k ≠ g := by
  intro he
  subst he
  exact ht (Ty.one (w := w) ⟨_, _, hb⟩ (own_block h))
theorem cdRowOut {w : World} {g gf k m c : Nat} {A : Option Addr} (h : Cdr w g gf k m A c) (i : Int) (hi : ¬ (0 ≤ i ∧ i < (k : Int) + m)) : Calls Try.prog 31 #[.pointer (some ⟨g, 0, none⟩), .int .i64 i] w fun e w' => e = .returned (.slice none 0 0) ∧ Below w.heap.size w w' := by
  have H1 := Lib.hid (cdNone h)
  have H2 := Lib.hid (cdHas h i)
  rw [decide_eq_false hi] at H2
  clear h hi
  go_enter Try.func31, Try.ntmps31
  go_wp2_with (first | (go_at_call 44; refine H1.out.mono ?_; rintro e w' ⟨rfl, rfl⟩) | (go_at_call 57; refine H2.out.mono ?_; rintro e w' ⟨rfl, hb⟩))
  go_ret
  exact ⟨rfl, hb⟩
set_option maxHeartbeats 800000 in
theorem cdRow {w : World} {g gf k m c : Nat} {A : Option Addr} (h : Cdr w g gf k m A c) (i : Nat) (hi : i < k + m) : Calls Try.prog 31 #[.pointer (some ⟨g, 0, none⟩), .int .i64 (i : Int)] w (NewB (Cod.facRow k i) w) := by
  have H1 := Lib.hid (cdNone h)
  have H2 := Lib.hid (cdHas h (i : Int))
  rw [decide_eq_true (by omega)] at H2
  have hk := h.hk
  have hs := h.hs
  have HC := Lib.hid h
  have hmk := makeB k (by omega)
  clear h
  go_enter Try.func31, Try.ntmps31
  go_wp2_with fail
  refine H1.out.mono ?_
  rintro e w' ⟨rfl, rfl⟩
  go_wp2_with fail
  refine H2.out.mono ?_
  rintro e w1 ⟨rfl, hb1⟩
  have hC1 := HC.out.below hb1
  have hal : Below w1.heap.size w1 (w1.alloc (.cells (madeCells #[.int .u8 0] k) 5)) := (Below.refl _ _).alloc (Nat.le_refl _) _
  have hC2 := hC1.below hal
  have h0 := hC1.c0
  have h02 := hC2.c0
  have hO := own_made w1 w1.heap.size 5 (.int .u8 0) k k (Nat.le_refl _) (Nat.le_refl _) (by unfold maxLen; omega)
  have HB1 := Lib.hid hb1
  have HS1 := Lib.hid hb1.size
  by_cases hik : i < k
  · have HST := Lib.hid (own_new w1 (base := w'.heap.size) 5 ((madeCells #[.int .u8 0] k).setIfInBounds i (.int .u8 1)) (n := k) HS1.out (by simp [size_madeCells]) (by unfold maxLen; omega) (vs := (Cod.facRow k i).map bv) (by
      rw [← Cod.facRow_data hik]
      apply List.ext_getElem
      · simp [size_madeCells]
      · intro j h1 h2
        have hj : j < k := by simpa using h2
        rw [Array.getElem_toList, Array.getElem_setIfInBounds (by rw [size_madeCells]; simpa using hj)]
        simp only [List.getElem_map, List.getElem_set, List.getElem_replicate]
        split
        · rfl
        · simp [madeCells, bv, Nat.mod_one]))
    have hmc : (madeCells #[.int .u8 0] k)[i]? = some (.int .u8 0) := by
      rw [Array.getElem?_eq_getElem (by rw [size_madeCells]; simpa using hik)]
      simp [madeCells, Nat.mod_one]
    clear hO hC1 hC2 HC hal
    go_wp2
    go_ret
    exact ⟨_, _, _, rfl, Cod.facRow_length _ _, HST.out, HB1.out.alloc HS1.out _⟩
  · obtain ⟨F, hF⟩ : ∃ F, Hid (Cod.facRow k i = F) := ⟨_, rfl⟩
    have HFL : Hid (F.length = k) := (show _ = _ by rw [← hF.out]; exact Cod.facRow_length _ _)
    have HO : Hid ((w1.alloc (.cells (madeCells #[.int .u8 0] k) 5)).ownsRow w1.heap.size 5 1 (.slice (some ⟨w1.heap.size, 0, none⟩) k k) k ((fillB F 0).map bv)) := by
      show World.ownsRow _ _ _ _ _ _ _
      rw [fillB_zero, List.map_replicate, HFL.out]
      exact hO
    rw [hF.out]
    have HC1 := Lib.hid hC1
    have HAL := Lib.hid hal
    obtain ⟨x, hx⟩ : ∃ x : Nat, i = k + x := ⟨i - k, by omega⟩
    subst hx
    have hxm : x < m := by omega
    clear hO hal hC1 hC2 HC hb1 H1 H2
    go_wp2
    go_loopw [6, 36] (fun _ j wr => ∃ q : Nat, j = .int .i64 q ∧ q ≤ k ∧ Hid (wr.ownsRow w1.heap.size 5 1 (.slice (some ⟨w1.heap.size, 0, none⟩) k k) k ((fillB F q).map bv)) ∧ Hid (Below w1.heap.size w1 wr)) (fun _ j _ => k - (intOf j).toNat)
    case atStart => exact ⟨0, rfl, Nat.zero_le _, HO, HAL⟩
    case round =>
      clear HO HAL h0 h02
      obtain ⟨q, rfl, hq, HO, HBr⟩ := hrel
      by_cases hlt : q < k
      · have hC := HC1.out.below HBr.out
        have hm3 : mr (m : Int) (k : Int) (m * k) = true := mr_true.2 ⟨by have := hC.hm; omega, by omega, by simp⟩
        have HAT := Lib.hid (matAt m k x q A (m * k) c _ wr.drew hC.rd (tabN_length _ _ _) hC.cap hm3 hxm hlt)
        have HBK : Hid (Blk wr.drew g 64 (cdC k m gf A c)) := hC.blk
        have hlf : q < F.length := by rw [HFL.out]; exact hlt
        have HV : Hid (F[q] = (tabN k (cauV (Cod.ris k m) (Cod.ris 0 k)) (m * k)).getD (x * k + q) 0) := by
          show _ = _
          have hlq : x * k + q < m * k := by
            calc x * k + q < x * k + k := by omega
              _ = (x + 1) * k := (Nat.succ_mul x k).symm
              _ ≤ m * k := Nat.mul_le_mul_right _ hxm
          rw [List.getD_eq_getElem?_getD, List.getElem?_eq_getElem (by rw [tabN_length]; exact hlq), Option.getD_some, tabN_get]
          have e1 : (x * k + q) / k = x := by rw [Nat.mul_comm, Nat.mul_add_div (by omega), Nat.div_eq_of_lt hlt]; rfl
          have e2 : (x * k + q) % k = q := by rw [Nat.mul_comm, Nat.mul_add_mod, Nat.mod_eq_of_lt hlt]
          rw [e1, e2]
          apply UInt8.toNat_inj.1
          rw [Cod.cau_fac hs hxm hlt, ← Cod.facRow_get k (k + x) hlt, hF.out]
          simp [List.getD, hlf]
        obtain ⟨z, hz⟩ : ∃ z, Hid ((tabN k (cauV (Cod.ris k m) (Cod.ris 0 k)) (m * k)).getD (x * k + q) 0 = z) := ⟨_, rfl⟩
        rw [hz.out] at HAT HV
        have HFS := Lib.hid (fillB_set F q hlf)
        have HFN := Lib.hid (fillB_length F q (by omega))
        rw [HV.out] at HFS
        have HO2 : Hid (wr.drew.ownsRow w1.heap.size 5 1 (.slice (some ⟨w1.heap.size, 0, none⟩) k k) k ((fillB F q).map bv)) := HO.out
        have HBr2 : Hid (Below w1.heap.size w1 wr.drew) := below_drewN HBr.out 1
        have hxk : IntKind.i64.wrap ((k : Int) + (x : Int) - (k : Int)) = (x : Int) := by rw [IntKind.wrap_i64]; omega
        have hxw : IntKind.i64.wrap (x : Int) = (x : Int) := by rw [IntKind.wrap_i64]; omega
        clear hC hz HO HBr
        go_wp2
        refine wp_region_held_drew (S := (fun wQq => Blk wQq g 64 (cdC k m gf A c))) (by kernel_rfl) (HBK.out) (fun _ => ?_)
        refine wpAnyH_take (i := 0) (v := ?_) rfl (by kernel_rfl) (by kernel_rfl) (by kernel_rfl) (fun _ _ _ h => h) (Or.inl ⟨by rfl, ?_⟩) (HBK.out) ?_
        rotate_left
        · intro wS hSw
          go_simp
          try with_reducible rfl
        try simp only [List.getElem_toArray, List.getElem_cons_zero, List.getElem_cons_succ, Act.put, List.setIfInBounds_toArray, List.set_cons_zero, List.set_cons_succ]
        refine wpAnyH_take (i := 1) (v := ?_) rfl (by kernel_rfl) (by kernel_rfl) (by kernel_rfl) (fun _ _ _ h => h) (Or.inl ⟨by rfl, ?_⟩) (HBK.out) ?_
        rotate_left
        · intro wS hSw
          go_simp
          try with_reducible rfl
        try simp only [List.getElem_toArray, List.getElem_cons_zero, List.getElem_cons_succ, Act.put, List.setIfInBounds_toArray, List.set_cons_zero, List.set_cons_succ]
        refine wpAnyH_take (i := 2) (v := ?_) rfl (by kernel_rfl) (by kernel_rfl) (by kernel_rfl) (fun _ _ _ h => h) (Or.inl ⟨by rfl, ?_⟩) (HBK.out) ?_
        rotate_left
        · intro wS hSw
          go_simp
          try with_reducible rfl
        try simp only [List.getElem_toArray, List.getElem_cons_zero, List.getElem_cons_succ, Act.put, List.setIfInBounds_toArray, List.set_cons_zero, List.set_cons_succ]
        refine wpAnyH_take (i := 3) (v := ?_) rfl (by kernel_rfl) (by kernel_rfl) (by kernel_rfl) (fun _ _ _ h => h) (Or.inl ⟨by rfl, ?_⟩) (HBK.out) ?_
        rotate_left
        · intro wS hSw
          go_simp
          try with_reducible rfl
        try simp only [List.getElem_toArray, List.getElem_cons_zero, List.getElem_cons_succ, Act.put, List.setIfInBounds_toArray, List.set_cons_zero, List.set_cons_succ]
        refine wpAnyH_take (i := 4) (v := ?_) rfl (by kernel_rfl) (by kernel_rfl) (by kernel_rfl) (fun _ _ _ h => h) (Or.inl ⟨by rfl, ?_⟩) (HBK.out) ?_
        rotate_left
        · intro wS hSw
          go_simp
          try with_reducible rfl
        try simp only [List.getElem_toArray, List.getElem_cons_zero, List.getElem_cons_succ, Act.put, List.setIfInBounds_toArray, List.set_cons_zero, List.set_cons_succ]
        refine wpAnyH_take (i := 6) (v := ?_) rfl (by kernel_rfl) (by kernel_rfl) (by kernel_rfl) (fun _ _ _ h => h) (Or.inl ⟨by rfl, ?_⟩) (HBK.out) ?_
        rotate_left
        · intro wS hSw
          go_simp
          try with_reducible rfl
        try simp only [List.getElem_toArray, List.getElem_cons_zero, List.getElem_cons_succ, Act.put, List.setIfInBounds_toArray, List.set_cons_zero, List.set_cons_succ]
        refine wpAnyH_take (i := 7) (v := ?_) rfl (by kernel_rfl) (by kernel_rfl) (by kernel_rfl) (fun _ _ _ h => h) (Or.inl ⟨by rfl, ?_⟩) (HBK.out) ?_
        rotate_left
        · intro wS hSw
          go_simp
          try with_reducible rfl
        try simp only [List.getElem_toArray, List.getElem_cons_zero, List.getElem_cons_succ, Act.put, List.setIfInBounds_toArray, List.set_cons_zero, List.set_cons_succ]
        refine wpAnyH_take (i := 8) (v := ?_) rfl (by kernel_rfl) (by kernel_rfl) (by kernel_rfl) (fun _ _ _ h => h) (Or.inl ⟨by rfl, ?_⟩) (HBK.out) ?_
        rotate_left
        · intro wS hSw
          go_simp
          try with_reducible rfl
        try simp only [List.getElem_toArray, List.getElem_cons_zero, List.getElem_cons_succ, Act.put, List.setIfInBounds_toArray, List.set_cons_zero, List.set_cons_succ]
        refine wpAnyH_take (i := 9) (v := ?_) rfl (by kernel_rfl) (by kernel_rfl) (by kernel_rfl) (fun _ _ _ h => h) (Or.inl ⟨by rfl, ?_⟩) (HBK.out) ?_
        rotate_left
        · intro wS hSw
          go_simp
          try with_reducible rfl
        try simp only [List.getElem_toArray, List.getElem_cons_zero, List.getElem_cons_succ, Act.put, List.setIfInBounds_toArray, List.set_cons_zero, List.set_cons_succ]
        refine wpAnyH_take (i := 10) (v := ?_) rfl (by kernel_rfl) (by kernel_rfl) (by kernel_rfl) (fun _ _ _ h => h) (Or.inl ⟨by rfl, ?_⟩) (HBK.out) ?_
        rotate_left
        · intro wS hSw
          go_simp
          try with_reducible rfl
        try simp only [List.getElem_toArray, List.getElem_cons_zero, List.getElem_cons_succ, Act.put, List.setIfInBounds_toArray, List.set_cons_zero, List.set_cons_succ]
        refine wpAnyH_take (i := 13) (v := ?_) rfl (by kernel_rfl) (by kernel_rfl) (by kernel_rfl) (fun _ _ _ h => h) (Or.inl ⟨by rfl, ?_⟩) (HBK.out) ?_
        rotate_left
        · intro wS hSw
          go_simp
          try with_reducible rfl
        try simp only [List.getElem_toArray, List.getElem_cons_zero, List.getElem_cons_succ, Act.put, List.setIfInBounds_toArray, List.set_cons_zero, List.set_cons_succ]
        refine wpAnyH_take (i := 5) (v := ?_) rfl (by kernel_rfl) (by kernel_rfl) (by kernel_rfl) (fun _ _ _ h => h) (Or.inl ⟨by rfl, ?_⟩) (HBK.out) ?_
        rotate_left
        · intro wS hSw
          have hcv := Cdr.k345 hSw
          go_simp
          try with_reducible rfl
        try simp only [List.getElem_toArray, List.getElem_cons_zero, List.getElem_cons_succ, Act.put, List.setIfInBounds_toArray, List.set_cons_zero, List.set_cons_succ]
        refine wpAnyH_take (i := 11) (v := ?_) rfl (by kernel_rfl) (by kernel_rfl) (by kernel_rfl) (fun _ _ _ h => h) (Or.inl ⟨by rfl, ?_⟩) (HBK.out) ?_
        rotate_left
        · intro wS hSw
          have hcv := Cdr.k0 hSw
          go_simp
          try with_reducible rfl
        try simp only [List.getElem_toArray, List.getElem_cons_zero, List.getElem_cons_succ, Act.put, List.setIfInBounds_toArray, List.set_cons_zero, List.set_cons_succ]
        refine wpAnyH_take (i := 12) (v := ?_) rfl (by kernel_rfl) (by kernel_rfl) (by kernel_rfl) (fun _ _ _ h => h) (Or.inl ⟨by rfl, ?_⟩) (HBK.out) ?_
        rotate_left
        · intro wS hSw
          go_simp
          try with_reducible rfl
        try simp only [List.getElem_toArray, List.getElem_cons_zero, List.getElem_cons_succ, Act.put, List.setIfInBounds_toArray, List.set_cons_zero, List.set_cons_succ]
        refine wpAnyH_ready (rs := [14]) (by kernel_rfl) (by simp) ?_
        refine AllReadyH.cons rfl (fun K hK => ?_) AllReadyH.nil
        go_simp
        refine HAT.out.mono ?_
        rintro e w3 ⟨rfl, hb3⟩
        have hbk3 := HBK.out.below hb3 HBK.out.lt
        have ho3 := own_via HO2.out hb3
        obtain ⟨hc4, hf4, hset4⟩ := own_byte ho3 (j := q) (by rw [HFN.out]; exact hlf)
        have hS4 := hset4 z 0
        rw [HFS.out] at hS4
        have HS4 := Lib.hid hS4
        have hne := own_ne ho3 hbk3 (by decide)
        have HBK4 := Lib.hid (hbk3.far (p := ⟨w1.heap.size, q, none⟩) hne (.int .u8 (z.toNat : Int)))
        have HBB := Lib.hid ((HBr2.out.trans (hb3.mono HBr2.out.size)).setCell (p := ⟨w1.heap.size, q, none⟩) (Nat.le_refl _) (.int .u8 (z.toNat : Int)))
        clear hset4 hS4 ho3 hb3 hne
        refine hK.out _ _ hbk3 (fun _ => ?_)
        clear hK K
        try simp only [List.getElem_toArray, List.getElem_cons_zero, List.getElem_cons_succ, Act.put, List.setIfInBounds_toArray, List.set_cons_zero, List.set_cons_succ]
        refine wpAnyH_take (i := 15) (v := ?_) rfl (by kernel_rfl) (by kernel_rfl) (by kernel_rfl) (fun _ _ _ h => h) (Or.inl ⟨by rfl, ?_⟩) hbk3 ?_
        rotate_left
        · intro wS hSw
          go_simp
          try with_reducible rfl
        try simp only [List.getElem_toArray, List.getElem_cons_zero, List.getElem_cons_succ, Act.put, List.setIfInBounds_toArray, List.set_cons_zero, List.set_cons_succ]
        refine wpAnyH_ready (rs := [16]) (by kernel_rfl) (by simp) ?_
        refine AllReadyH.cons rfl (fun K hK => ?_) AllReadyH.nil
        go_simp
        refine hK.out _ _ HBK4.out (fun _ => ?_)
        clear hK K
        try simp only [List.getElem_toArray, List.getElem_cons_zero, List.getElem_cons_succ, Act.put, List.setIfInBounds_toArray, List.set_cons_zero, List.set_cons_succ]
        refine wpAnyH_done (by kernel_rfl) ?_ _
        go_wp2
        go_roundw
        case rel => exact ⟨q + 1, by go_num, hlt, HS4, HBB⟩
        case measure => simp [intOf]; omega
      · obtain rfl : q = k := by omega
        have HO3 : Hid (wr.ownsRow w1.heap.size 5 1 (.slice (some ⟨w1.heap.size, 0, none⟩) q q) q (F.map bv)) := by
          show World.ownsRow _ _ _ _ _ _ _
          rw [show F = fillB F q from by rw [← HFL.out, fillB_all]]
          exact HO.out
        clear HO
        go_wp2
        go_ret
        exact ⟨_, _, _, rfl, by rw [hF.out]; exact HFL.out, by rw [hF.out]; exact own_lowerB HO3.out HS1.out, HB1.out.via HBr.out⟩
end Cib
