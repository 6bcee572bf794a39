/- How the data comes of k shards: the inverse of their rows. -/
import Derived.Test.YthlpcghoijgeiaaLocP
import Derived.Test.YthlpcghoijgeiaaLoE
import Derived.Test.YthlpcghoijgeiaaLoH
import Derived.Test.YthlpcghoijgeiaaLoI
import Derived.Deep.RegionWith
set_option linter.unusedVariables false
set_option linter.unusedSimpArgs false
set_option maxRecDepth 40000
namespace Cib
open Go Go.RowKit Go.Proofs
/-- The rows of shards, one behind the other. -/
def mtx (k : Nat) (us : List Nat) : List UInt8 := us.flatMap (Cod.facRow k)
theorem mtx_eq (k : Nat) (us : List Nat) : mtx k us = (us.map (Cod.facRow k)).flatten := by unfold mtx; rw [List.flatMap_def]
theorem mtx_rows (k : Nat) (us : List Nat) : ∀ r ∈ us.map (Cod.facRow k), r.length = k := by
  intro r hr
  obtain ⟨u, _, rfl⟩ := List.mem_map.1 hr
  exact Cod.facRow_length k u
theorem mtx_length (k : Nat) (us : List Nat) : (mtx k us).length = us.length * k := by
  rw [mtx_eq, flat_length k _ (mtx_rows k us), List.length_map]
theorem mtx_fl {k : Nat} {us : List Nat} {j t : Nat} (hj : j < us.length) (ht : t < k) : Lin.fl k (mtx k us) j t = Loc.fx k (us.getD j 0) t := by
  have h := flat_get k (us.map (Cod.facRow k)) (mtx_rows k us) j t (by simpa using hj) ht
  unfold Lin.fl
  rw [mtx_eq, List.getD_eq_getElem?_getD, h, List.getElem_map]
  apply Lin.ext8
  rw [Loc.fx_toNat, ← Cod.facRow_get k _ ht]
  simp [List.getD, hj]
theorem mtx_snoc {k : Nat} {us : List Nat} {p : Nat} (hp : p < us.length) : mtx k (us.take (p + 1)) = mtx k (us.take p) ++ Cod.facRow k us[p] := by
  unfold mtx
  rw [List.take_succ_eq_append_getElem hp, List.flatMap_append, List.flatMap_cons, List.flatMap_nil, List.append_nil]
/-- Which shards are in use: rising, of those that are. -/
structure Use (k m : Nat) (us : List Nat) : Prop where
  len : us.length = k
  lt : ∀ u ∈ us, u < k + m
  up : us.Pairwise (· < ·)
theorem Use.u_lt {k m : Nat} {us : List Nat} (h : Use k m us) {j : Nat} (hj : j < k) : us.getD j 0 < k + m := by
  have hj' : j < us.length := by rw [h.len]; exact hj
  have := h.lt _ (List.getElem_mem hj')
  simpa [List.getD, hj'] using this
theorem Use.u_up {k m : Nat} {us : List Nat} (h : Use k m us) {i j : Nat} (hij : i < j) (hj : j < k) : us.getD i 0 < us.getD j 0 := by
  have hj' : j < us.length := by rw [h.len]; exact hj
  have hi' : i < us.length := by omega
  have := List.pairwise_iff_getElem.1 h.up i j hi' hj' hij
  simpa [List.getD, hj', hi'] using this
theorem Use.rank {k m r : Nat} {us : List Nat} (h : Use k m us) (hs : k + m ≤ 255) (g : Lin.Rk k k (Lin.fl k (mtx k us)) r) : r = k := by
  have hli := Loc.genLI (k := k) (u := fun j => us.getD j 0) (fun i j hij hj => h.u_up hij hj) (fun j hj => by have := h.u_lt hj; omega) (by omega)
  refine Lin.LI.full (M := Lin.fl k (mtx k us)) (fun x hx j hj => hli x (fun t ht => ?_) j hj) g
  rw [← hx t ht]
  exact Lin.sm_congr fun i hi => by rw [mtx_fl (by rw [h.len]; exact hi) ht]
/-- inverse under way. -/
structure IvI (w : World) (k : Nat) (us : List Nat) (p : Nat) (A : Option Addr) (c : Nat) (wr : World) : Prop where
  blk : Blk wr (w.heap.size + 1) 45 (mv k k A (p * k) c)
  own : wr.ownsRow w.heap.size 5 1 (.slice A (p * k) c) (p * k) ((mtx k (us.take p)).map bv)
  below : Below w.heap.size w wr
  res : Blk wr w.heap.size 45 (mv 0 0 none 0 0)
theorem IvI.push {w wr w2 w3 : World} {k p : Nat} {us : List Nat} {A A3 : Option Addr} {c c3 : Nat} (h : IvI w k us p A c wr) (hp : p < us.length) (hb2 : Below wr.heap.size wr w2)
    (ho : w3.ownsRow w.heap.size 5 1 (.slice A3 (p * k + k) c3) (p * k + k) ((mtx k (us.take p)).map bv ++ (Cod.facRow k us[p]).map bv)) (hg : w2.grownBy w3 (Value.slice A (p * k) c).ownBlock) (hbl : Below w.heap.size w2 w3) :
    IvI w k us (p + 1) A3 c3 (w3.setCell ⟨w.heap.size + 1, 2, none⟩ (.slice A3 (p * k + k) c3)) := by
  have ho2 := own_via h.own hb2
  have hs3 : Same [5] w2 w3 := Same.grown ho2 hg (by simp)
  have hB := Blk.same (h.blk.below hb2 h.blk.lt) hs3 (by decide)
  have hR := Blk.same (h.res.below hb2 h.res.lt) hs3 (by decide)
  refine ⟨?_, ?_, ((h.below.via hb2).trans hbl).setCell (by show _ ≤ w.heap.size + 1; omega) _, hR.far (by show _ ≠ w.heap.size + 1; omega) _⟩
  · rw [Nat.succ_mul]
    exact hB.set 2 _
  · rw [mtx_snoc hp, List.map_append, Nat.succ_mul]
    have hnb : (Value.slice A3 (p * k + k) c3).ownBlock ≠ some (w.heap.size + 1) := by
      intro he
      rcases ho.2 with ⟨h0, _⟩ | ⟨g, cap, cur, hv, _, h2, _⟩
      · injection h0 with h0
        subst h0
        simp [Value.ownBlock] at he
      · injection hv with h0
        subst h0
        simp [Value.ownBlock] at he
        subst he
        exact absurd (Ty.one (w := w3) ⟨_, _, hB⟩ ⟨_, _, h2⟩) (by decide)
    exact ownsRow_setCell_other ho hnb _
theorem IvI.kept {w wr w2 w3 : World} {k p : Nat} {us : List Nat} {A : Option Addr} {c : Nat} (h : IvI w k us p A c wr) (hb2 : Below wr.heap.size wr w2) (hg : w2.grownBy w3 (Value.slice A (p * k) c).ownBlock) : Blk w3 (w.heap.size + 1) 45 (mv k k A (p * k) c) :=
  Blk.same (h.blk.below hb2 h.blk.lt) (Same.grown (ts := [5]) (own_via h.own hb2) hg (by simp)) (by decide)
set_option maxHeartbeats 2000000 in
theorem decInverse {w : World} {g gf k m c : Nat} {A : Option Addr} (h : Cdr w g gf k m A c) (us : List Nat) (hu : Use k m us) (Au : Option Addr) (cu B : Nat) (hr : Rd w B Au (us.map iv)) (hB : B ≤ w.heap.size) :
    Calls Try.prog 75 #[.pointer (some ⟨g, 0, none⟩), .slice Au k cu] w fun e w' => ∃ X A' c', e = .returned (.tuple #[.agg (mv k k A' (k * k) c'), .int .i64 0]) ∧ Lin.Inv k (Lin.fl k (mtx k us)) (Lin.fl k X) ∧ X.length = k * k ∧ w'.ownsRow w.heap.size 5 1 (.slice A' (k * k) c') (k * k) (X.map bv) ∧ Below w.heap.size w w' := by
  have hk1 := h.hk
  have hs := h.hs
  have HC := Lib.hid h
  have HU := Lib.hid hu
  have HR := Lib.hid hr
  have hkk : k * k ≤ 65025 := Nat.mul_le_mul (show k ≤ 255 by omega) (show k ≤ 255 by omega)
  have HK : Hid (∀ W, Below w.heap.size w W → Calls Try.prog 42 #[.pointer (some ⟨g, 0, none⟩)] W fun e w' => e = .returned (.int .i64 (k : Int)) ∧ w' = W) := Lib.hid fun W hW => cdK (h.below hW)
  have hal : Below w.heap.size w (w.alloc (.cells (mv 0 0 none 0 0) 45)) := (Below.refl _ _).alloc (Nat.le_refl _) _
  have HAL := Lib.hid hal
  have HI0 : Hid (IvI w k us 0 none 0 ((w.alloc (.cells (mv 0 0 none 0 0) 45)).alloc (.cells (mv k k none 0 0) 45))) := Lib.hid (by
    refine ⟨?_, ?_, hal.alloc (by simp) _, (Blk.new w 45 (mv 0 0 none 0 0)).alloc _⟩
    · rw [Nat.zero_mul]
      have := Blk.new (w.alloc (.cells (mv 0 0 none 0 0) 45)) 45 (mv k k none 0 0)
      simpa using this
    · rw [Nat.zero_mul]
      simpa [mtx] using World.ownsRow_nil _ _ _ _)
  unfold mv at HAL HI0
  clear h hu hr hal
  go_enter Try.func75, Try.ntmps75
  go_wp2_with fail
  refine (HK.out _ HAL.out).mono ?_
  rintro e w1 ⟨rfl, rfl⟩
  clear HAL HK
  go_wp2
  go_loopw [8, 16] (fun _ i wr => ∃ (p : Nat) (A1 : Option Addr) (c1 : Nat), i = .int .i64 p ∧ p ≤ k ∧ Hid (IvI w k us p A1 c1 wr)) (fun _ i _ => k - (intOf i).toNat)
  case atStart => exact ⟨0, none, 0, rfl, Nat.zero_le _, HI0⟩
  case round =>
    clear HI0
    obtain ⟨p, A1, c1, rfl, hp, HI⟩ := hrel
    by_cases hlt : p < k
    · have hpl : p < us.length := by rw [HU.out.len]; exact hlt
      obtain ⟨ad, rfl, hcell⟩ := rd_int (HR.out.below (HI.out.below.mono hB)) hpl
      have hul := HU.out.lt _ (List.getElem_mem hpl)
      have HP := Lib.hid (fun w2 w3 A3 c3 hb2 ho3 hg3 hb3 => IvI.push (w := w) (wr := wr.drew) (w2 := w2) (w3 := w3) (A3 := A3) (c3 := c3) ⟨HI.out.blk, HI.out.own, below_drewN HI.out.below 1, HI.out.res⟩ hpl hb2 ho3 hg3 hb3)
      have HKP := Lib.hid (fun w2 w3 hb2 hg3 => IvI.kept (w := w) (wr := wr.drew) (w2 := w2) (w3 := w3) ⟨HI.out.blk, HI.out.own, below_drewN HI.out.below 1, HI.out.res⟩ hb2 hg3)
      generalize us[p] = u at *
      have hcm := HI.out.blk.cell 2
      have hg2 := HI.out.blk.lt
      have hfm := HI.out.blk.frozen 2
      rw [show (mv k k A1 (p * k) c1)[2]? = some (.slice A1 (p * k) c1) from rfl] at hcm
      have HCR := Lib.hid (cdRow (HC.out.below (below_drewN HI.out.below 1)) u hul)
      have HO : Hid (wr.drew.ownsRow w.heap.size 5 1 (.slice A1 (p * k) c1) (p * k) ((mtx k (us.take p)).map bv)) := Lib.hid HI.out.own
      have hsz := HI.out.below.size
      have hpk : p * k + k ≤ 65025 := by
        have : (p + 1) * k ≤ 255 * 255 := Nat.mul_le_mul (by omega) (by omega)
        rw [Nat.succ_mul] at this
        omega
      clear hpl hul HI
      go_wp2
      refine wp_region_held_drew (S := (fun _ => True)) (by kernel_rfl) trivial (fun _ => ?_)
      refine wpAnyH_take (i := 0) (v := ?_) rfl (by kernel_rfl) (by kernel_rfl) (by kernel_rfl) (fun _ _ _ h => h) (Or.inl ⟨by rfl, ?_⟩) trivial ?_
      rotate_left
      · intro wS hSw
        go_simp
        try with_reducible rfl
      try simp only [List.getElem_toArray, List.getElem_cons_zero, List.getElem_cons_succ, Act.put, List.setIfInBounds_toArray, List.set_cons_zero, List.set_cons_succ]
      refine wpAnyH_take (i := 2) (v := ?_) rfl (by kernel_rfl) (by kernel_rfl) (by kernel_rfl) (fun _ _ _ h => h) (Or.inl ⟨by rfl, ?_⟩) trivial ?_
      rotate_left
      · intro wS hSw
        go_simp
        try with_reducible rfl
      try simp only [List.getElem_toArray, List.getElem_cons_zero, List.getElem_cons_succ, Act.put, List.setIfInBounds_toArray, List.set_cons_zero, List.set_cons_succ]
      refine wpAnyH_take (i := 3) (v := ?_) rfl (by kernel_rfl) (by kernel_rfl) (by kernel_rfl) (fun _ _ _ h => h) (Or.inl ⟨by rfl, ?_⟩) trivial ?_
      rotate_left
      · intro wS hSw
        go_simp
        try with_reducible rfl
      try simp only [List.getElem_toArray, List.getElem_cons_zero, List.getElem_cons_succ, Act.put, List.setIfInBounds_toArray, List.set_cons_zero, List.set_cons_succ]
      refine wpAnyH_ready (rs := [1, 4]) (by kernel_rfl) (by simp) ?_
      refine AllReadyH.cons rfl (fun K hK => ?_) (AllReadyH.cons rfl (fun K hK => ?_) AllReadyH.nil)
      · go_simp
        refine hK.out _ _ trivial (fun _ => ?_)
        clear hK K
        try simp only [List.getElem_toArray, List.getElem_cons_zero, List.getElem_cons_succ, Act.put, List.setIfInBounds_toArray, List.set_cons_zero, List.set_cons_succ]
        refine wpAnyH_ready (rs := [4]) (by kernel_rfl) (by simp) ?_
        refine AllReadyH.cons rfl (fun K hK => ?_) AllReadyH.nil
        go_simp
        refine HCR.out.mono ?_
        rintro e w2 ⟨A2, n2, c2, rfl, hn2, ho2, hb2⟩
        rw [Cod.facRow_length] at hn2
        subst hn2
        have hcm3 := (hb2.cell (p := ⟨w.heap.size + 1, 2, none⟩) (by exact hg2)).trans hcm
        have hs2 : w.heap.size ≤ w2.heap.size := Nat.le_trans hsz hb2.size
        have HB2 := Lib.hid hb2
        have HO2 := Lib.hid ho2
        clear hb2 ho2
        refine hK.out _ _ trivial (fun _ => ?_)
        clear hK K
        try simp only [List.getElem_toArray, List.getElem_cons_zero, List.getElem_cons_succ, Act.put, List.setIfInBounds_toArray, List.set_cons_zero, List.set_cons_succ]
        refine wpAnyH_ready (rs := [5]) (by kernel_rfl) (by simp) ?_
        refine AllReadyH.cons rfl (fun K hK => ?_) AllReadyH.nil
        refine wp_appB (.tmp 21) (.tmp 24) rfl w.heap.size A1 (p * k) c1 ((mtx k (us.take p)).map bv) rfl (own_via HO.out HB2.out) _ A2 k c2 ((Cod.facRow k u).map bv) rfl (by rw [List.length_map, Cod.facRow_length]) (Rd.of_own HO2.out) one_bytes (by omega) hs2 ?_
        intro A3 c3 w3 ho3 hg3 hb3
        have hk3 := HKP.out _ _ HB2.out hg3
        have hcm4 := hk3.cell 2
        rw [show (mv k k A1 (p * k) c1)[2]? = some (.slice A1 (p * k) c1) from rfl] at hcm4
        have hfm4 := hk3.frozen 2
        have HP3 := Lib.hid (HP.out _ _ _ _ HB2.out ho3 hg3 hb3)
        clear hk3 ho3 hg3 hb3
        refine hK.out _ _ trivial (fun _ => ?_)
        clear hK K
        try simp only [List.getElem_toArray, List.getElem_cons_zero, List.getElem_cons_succ, Act.put, List.setIfInBounds_toArray, List.set_cons_zero, List.set_cons_succ]
        refine wpAnyH_take (i := 6) (v := ?_) rfl (by kernel_rfl) (by kernel_rfl) (by kernel_rfl) (fun _ _ _ h => h) (Or.inl ⟨by rfl, ?_⟩) trivial ?_
        rotate_left
        · intro wS hSw
          go_simp
          try with_reducible rfl
        try simp only [List.getElem_toArray, List.getElem_cons_zero, List.getElem_cons_succ, Act.put, List.setIfInBounds_toArray, List.set_cons_zero, List.set_cons_succ]
        refine wpAnyH_ready (rs := [7]) (by kernel_rfl) (by simp) ?_
        refine AllReadyH.cons rfl (fun K hK => ?_) AllReadyH.nil
        go_simp
        refine hK.out _ _ trivial (fun _ => ?_)
        clear hK K
        try simp only [List.getElem_toArray, List.getElem_cons_zero, List.getElem_cons_succ, Act.put, List.setIfInBounds_toArray, List.set_cons_zero, List.set_cons_succ]
        refine wpAnyH_done (by kernel_rfl) ?_ _
        go_wp2
        go_roundw
        case rel => exact ⟨p + 1, A3, c3, by go_num, hlt, HP3⟩
        case measure => simp [intOf]; omega
      · go_simp
        refine HCR.out.mono ?_
        rintro e w2 ⟨A2, n2, c2, rfl, hn2, ho2, hb2⟩
        rw [Cod.facRow_length] at hn2
        subst hn2
        have hcm3 := (hb2.cell (p := ⟨w.heap.size + 1, 2, none⟩) (by exact hg2)).trans hcm
        have hs2 : w.heap.size ≤ w2.heap.size := Nat.le_trans hsz hb2.size
        have HB2 := Lib.hid hb2
        have HO2 := Lib.hid ho2
        clear hb2 ho2
        refine hK.out _ _ trivial (fun _ => ?_)
        clear hK K
        try simp only [List.getElem_toArray, List.getElem_cons_zero, List.getElem_cons_succ, Act.put, List.setIfInBounds_toArray, List.set_cons_zero, List.set_cons_succ]
        refine wpAnyH_ready (rs := [1]) (by kernel_rfl) (by simp) ?_
        refine AllReadyH.cons rfl (fun K hK => ?_) AllReadyH.nil
        go_simp
        refine hK.out _ _ trivial (fun _ => ?_)
        clear hK K
        try simp only [List.getElem_toArray, List.getElem_cons_zero, List.getElem_cons_succ, Act.put, List.setIfInBounds_toArray, List.set_cons_zero, List.set_cons_succ]
        refine wpAnyH_ready (rs := [5]) (by kernel_rfl) (by simp) ?_
        refine AllReadyH.cons rfl (fun K hK => ?_) AllReadyH.nil
        refine wp_appB (.tmp 21) (.tmp 24) rfl w.heap.size A1 (p * k) c1 ((mtx k (us.take p)).map bv) rfl (own_via HO.out HB2.out) _ A2 k c2 ((Cod.facRow k u).map bv) rfl (by rw [List.length_map, Cod.facRow_length]) (Rd.of_own HO2.out) one_bytes (by omega) hs2 ?_
        intro A3 c3 w3 ho3 hg3 hb3
        have hk3 := HKP.out _ _ HB2.out hg3
        have hcm4 := hk3.cell 2
        rw [show (mv k k A1 (p * k) c1)[2]? = some (.slice A1 (p * k) c1) from rfl] at hcm4
        have hfm4 := hk3.frozen 2
        have HP3 := Lib.hid (HP.out _ _ _ _ HB2.out ho3 hg3 hb3)
        clear hk3 ho3 hg3 hb3
        refine hK.out _ _ trivial (fun _ => ?_)
        clear hK K
        try simp only [List.getElem_toArray, List.getElem_cons_zero, List.getElem_cons_succ, Act.put, List.setIfInBounds_toArray, List.set_cons_zero, List.set_cons_succ]
        refine wpAnyH_take (i := 6) (v := ?_) rfl (by kernel_rfl) (by kernel_rfl) (by kernel_rfl) (fun _ _ _ h => h) (Or.inl ⟨by rfl, ?_⟩) trivial ?_
        rotate_left
        · intro wS hSw
          go_simp
          try with_reducible rfl
        try simp only [List.getElem_toArray, List.getElem_cons_zero, List.getElem_cons_succ, Act.put, List.setIfInBounds_toArray, List.set_cons_zero, List.set_cons_succ]
        refine wpAnyH_ready (rs := [7]) (by kernel_rfl) (by simp) ?_
        refine AllReadyH.cons rfl (fun K hK => ?_) AllReadyH.nil
        go_simp
        refine hK.out _ _ trivial (fun _ => ?_)
        clear hK K
        try simp only [List.getElem_toArray, List.getElem_cons_zero, List.getElem_cons_succ, Act.put, List.setIfInBounds_toArray, List.set_cons_zero, List.set_cons_succ]
        refine wpAnyH_done (by kernel_rfl) ?_ _
        go_wp2
        go_roundw
        case rel => exact ⟨p + 1, A3, c3, by go_num, hlt, HP3⟩
        case measure => simp [intOf]; omega
    · obtain rfl : p = k := by omega
      have htk : us.take p = us := List.take_of_length_le (by rw [HU.out.len]; exact Nat.le_refl _)
      have HOM := Lib.hid HI.out.own
      rw [htk] at HOM
      have HB1 : Hid (Blk wr.drew (w.heap.size + 1) 45 (mv p p A1 (p * p) c1)) := Lib.hid HI.out.blk
      have HR1 : Hid (Blk wr.drew w.heap.size 45 (mv 0 0 none 0 0)) := Lib.hid HI.out.res
      have HBW := Lib.hid (below_drewN HI.out.below 1)
      have HCC := Lib.hid (HC.out.below HBW.out)
      have HIV := Lib.hid (matInvert gf p A1 c1 (mtx p us) wr.drew HCC.out.full.fld (Rd.of_own HOM.out) (fun ad e => by
        subst e
        obtain ⟨g1, e1, _⟩ := own_at HOM.out (Nat.mul_pos hk1 hk1)
        injection e1 with e1
        subst e1
        exact (own_ne HOM.out HCC.out.full (by decide)).symm) (by rw [mtx_length, HU.out.len]) (own_cap HOM.out).1 hk1 (by omega))
      unfold InvR at HIV
      have HFU := Lib.hid HCC.out.full
      have hlt1 := HB1.out.lt
      clear HI HC hlt htk
      go_wp2
      refine wp_region_held_drew (S := (fun wQq => Blk wQq (w.heap.size + 1) 45 (mv p p A1 (p * p) c1))) (by kernel_rfl) (HB1.out) (fun _ => ?_)
      refine wpAnyH_take (i := 0) (v := ?_) rfl (by kernel_rfl) (by kernel_rfl) (by kernel_rfl) (fun _ _ _ h => h) (Or.inl ⟨by rfl, ?_⟩) (HB1.out) ?_
      rotate_left
      · intro wS hSw
        go_simp
        try with_reducible rfl
      try simp only [List.getElem_toArray, List.getElem_cons_zero, List.getElem_cons_succ, Act.put, List.setIfInBounds_toArray, List.set_cons_zero, List.set_cons_succ]
      refine wpAnyH_take (i := 2) (v := ?_) rfl (by kernel_rfl) (by kernel_rfl) (by kernel_rfl) (fun _ _ _ h => h) (Or.inl ⟨by rfl, ?_⟩) (HB1.out) ?_
      rotate_left
      · intro wS hSw
        have hcv := True.intro
        obtain ⟨e0, e1, e2⟩ : _ ∧ _ ∧ _ := ⟨hSw.cell 0, hSw.cell 1, hSw.cell 2⟩
        unfold mv at e0 e1 e2
        simp only [List.getElem?_toArray, List.getElem?_cons_zero, List.getElem?_cons_succ] at e0 e1 e2
        go_simp
        try with_reducible rfl
      try simp only [List.getElem_toArray, List.getElem_cons_zero, List.getElem_cons_succ, Act.put, List.setIfInBounds_toArray, List.set_cons_zero, List.set_cons_succ]
      refine wpAnyH_ready (rs := [1]) (by kernel_rfl) (by simp) ?_
      refine AllReadyH.cons rfl (fun K hK => ?_) AllReadyH.nil
      go_simp
      refine (cdField HCC.out).mono ?_
      rintro e w2 ⟨rfl, rfl⟩
      refine hK.out _ _ HB1.out (fun _ => ?_)
      clear hK K
      try simp only [List.getElem_toArray, List.getElem_cons_zero, List.getElem_cons_succ, Act.put, List.setIfInBounds_toArray, List.set_cons_zero, List.set_cons_succ]
      refine wpAnyH_ready (rs := [3]) (by kernel_rfl) (by simp) ?_
      refine AllReadyH.cons rfl (fun K hK => ?_) AllReadyH.nil
      go_simp
      refine HIV.out.mono ?_
      rintro e w3 hw3
      have hw3 := hw3.resolve_right (fun ⟨r, h1, h2, _⟩ => absurd (HU.out.rank hs h2) (by omega))
      obtain ⟨X, hX, A3, c3, rfl, hl3, ho3, hS3⟩ := hw3
      have hb3 := hS3.bel HFU.out
      have HB3 := Lib.hid (HB1.out.below hb3 HB1.out.lt)
      have HR3 := Lib.hid (HR1.out.below hb3 HR1.out.lt)
      have HX3 := Lib.hid hX
      have HL3 := Lib.hid hl3
      have HO3 := Lib.hid ho3
      have HW3 := Lib.hid (HBW.out.via hb3)
      clear hb3 hX hl3 ho3 hS3
      refine hK.out _ _ HB3.out (fun _ => ?_)
      clear hK K
      try simp only [List.getElem_toArray, List.getElem_cons_zero, List.getElem_cons_succ, Act.put, List.setIfInBounds_toArray, List.set_cons_zero, List.set_cons_succ]
      refine wpAnyH_take (i := 4) (v := ?_) rfl (by kernel_rfl) (by kernel_rfl) (by kernel_rfl) (fun _ _ _ h => h) (Or.inl ⟨by rfl, ?_⟩) HB3.out ?_
      rotate_left
      · intro wS hSw
        go_simp
        try with_reducible rfl
      try simp only [List.getElem_toArray, List.getElem_cons_zero, List.getElem_cons_succ, Act.put, List.setIfInBounds_toArray, List.set_cons_zero, List.set_cons_succ]
      refine wpAnyH_take (i := 5) (v := ?_) rfl (by kernel_rfl) (by kernel_rfl) (by kernel_rfl) (fun _ _ _ h => h) (Or.inl ⟨by rfl, ?_⟩) HB3.out ?_
      rotate_left
      · intro wS hSw
        go_simp
        try with_reducible rfl
      try simp only [List.getElem_toArray, List.getElem_cons_zero, List.getElem_cons_succ, Act.put, List.setIfInBounds_toArray, List.set_cons_zero, List.set_cons_succ]
      refine wpAnyH_ready (rs := [6]) (by kernel_rfl) (by simp) ?_
      refine AllReadyH.cons rfl (fun K hK => ?_) AllReadyH.nil
      refine wp_store_row 45 (.tmp 4) (.tmp 32) rfl w.heap.size (mv p p A3 (p * p) c3) rfl rfl 45 (mv 0 0 none 0 0) HR3.out matInfo3 rfl (mv_one _ _ _ _ _) ?_
      have HB4 := Lib.hid (Blk.rowFar HB3.out (g' := w.heap.size) (by omega) (mv p p A3 (p * p) c3))
      refine hK.out _ _ HB4.out (fun _ => ?_)
      clear hK K
      try simp only [List.getElem_toArray, List.getElem_cons_zero, List.getElem_cons_succ, Act.put, List.setIfInBounds_toArray, List.set_cons_zero, List.set_cons_succ]
      refine wpAnyH_take (i := 7) (v := ?_) rfl (by kernel_rfl) (by kernel_rfl) (by kernel_rfl) (fun _ _ _ h => h) (Or.inl ⟨by rfl, ?_⟩) HB4.out ?_
      rotate_left
      · intro wS hSw
        go_simp
        try with_reducible rfl
      try simp only [List.getElem_toArray, List.getElem_cons_zero, List.getElem_cons_succ, Act.put, List.setIfInBounds_toArray, List.set_cons_zero, List.set_cons_succ]
      refine wpAnyH_done (by kernel_rfl) ?_ _
      go_wp2
      refine bodyPost_ret (results_mat2 (g := w.heap.size) (te := 45) (cs := mv p p A3 (p * p) c3) (fr := (0, 0)) rfl _ _ _ rfl (HR3.out.row _) Try.underlying45 rfl matInfo3) rfl ?_
      refine ⟨X, A3, c3, rfl, HX3.out, HL3.out, ?_, below_setRow HW3.out (Nat.le_refl _) _⟩
      refine own_setRow (own_lowerB HO3.out (by have := HBW.out.size; exact this)) (fun he => ?_) _
      have := (HO3.out.lt _ he).1
      have h2 : w.heap.size < wr.drew.heap.size := HR1.out.lt
      omega
end Cib
