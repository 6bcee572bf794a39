/- The law MatrixSquares (the steps are printed by genSq.py); a part of a Cauchy matrix; what Cauchy refuses; are numbers distinct? -/
import Derived.Test.YtnicfpkadiamaaaMatPk
import Derived.Test.YtnicfpkadiamaaaMatCh
import Derived.Test.YtnicfpkadiamaaaMatH
set_option linter.unusedVariables false
set_option linter.unusedSimpArgs false
set_option maxRecDepth 40000
namespace Cib
open Go Go.RowKit Go.Proofs
theorem nd_ne {α : Type} {l : List α} (h : l.Nodup) {i j : Nat} (hi : i < l.length) (hj : j < l.length) (hij : i ≠ j) : l[i] ≠ l[j] := by
  rcases Nat.lt_or_gt_of_ne hij with h' | h'
  · exact List.pairwise_iff_getElem.1 h i j hi hj h'
  · exact (List.pairwise_iff_getElem.1 h j i hj hi h').symm
theorem getN {l : List Nat} {i : Nat} (h : i < l.length) : l.getD i 0 = l[i] := by
  rw [List.getD_eq_getElem?_getD, List.getElem?_eq_getElem h]
  rfl
theorem cau_gi {xs ys : List UInt8} {i j : Nat} (h : xs.getD i 0 ≠ ys.getD j 0) : cauV xs ys i j = Lin.gi (xs.getD i 0 ^^^ ys.getD j 0) := by
  unfold cauV divA Lin.gi
  rw [← UInt8.toNat_xor, if_neg (Lin.ne8 (Lin.x_ne h))]
/-- The part of a Cauchy matrix, rows for columns. -/
def sqL (K : Nat) (xs ys : List UInt8) (rows cols : List Nat) : List UInt8 := Lin.pickL K (Lin.turnL K ys.length (Lin.pickL ys.length (tabN ys.length (cauV xs ys) (xs.length * ys.length)) rows)) cols
theorem sq_fl {K : Nat} {xs ys : List UInt8} {rows cols : List Nat} (hrl : rows.length = K) (hcl : cols.length = K) (hr : ∀ x ∈ rows, x < xs.length) (hc : ∀ x ∈ cols, x < ys.length) {i j : Nat} (hi : i < K) (hj : j < K) :
    Lin.fl K (sqL K xs ys rows cols) i j = cauV xs ys (rows.getD j 0) (cols.getD i 0) := by
  have hcm : cols.getD i 0 < ys.length := by rw [getN (by omega)]; exact hc _ (List.getElem_mem _)
  have hrm : rows.getD j 0 < xs.length := by rw [getN (by omega)]; exact hr _ (List.getElem_mem _)
  unfold sqL
  rw [show Lin.fl K (Lin.pickL K (Lin.turnL K ys.length (Lin.pickL ys.length (tabN ys.length (cauV xs ys) (xs.length * ys.length)) rows)) cols) i j = Lin.fl K (Lin.turnL K ys.length (Lin.pickL ys.length (tabN ys.length (cauV xs ys) (xs.length * ys.length)) rows)) (cols.getD i 0) j from Lin.fl_tabRC (by omega) hj]
  rw [Lin.turnL_fl hcm hj]
  rw [show Lin.fl ys.length (Lin.pickL ys.length (tabN ys.length (cauV xs ys) (xs.length * ys.length)) rows) j (cols.getD i 0) = Lin.fl ys.length (tabN ys.length (cauV xs ys) (xs.length * ys.length)) (rows.getD j 0) (cols.getD i 0) from Lin.fl_tabRC (by omega) hcm]
  exact Lin.fl_tabRC hrm hcm
theorem sq_LI {K : Nat} {xs ys : List UInt8} {rows cols : List Nat} (hnd : (xs ++ ys).Nodup) (hrl : rows.length = K) (hcl : cols.length = K) (hr : ∀ x ∈ rows, x < xs.length) (hc : ∀ x ∈ cols, x < ys.length) (hrn : rows.Nodup) (hcn : cols.Nodup) :
    Lin.LI K K (Lin.fl K (sqL K xs ys rows cols)) := by
  obtain ⟨hx, hy, hxy⟩ := List.nodup_append.1 hnd
  have hcm : ∀ i, i < K → cols.getD i 0 < ys.length := fun i hi => by rw [getN (by omega)]; exact hc _ (List.getElem_mem _)
  have hrm : ∀ i, i < K → rows.getD i 0 < xs.length := fun i hi => by rw [getN (by omega)]; exact hr _ (List.getElem_mem _)
  have hcd : ∀ i j, i < K → j < K → i ≠ j → cols.getD i 0 ≠ cols.getD j 0 := fun i j hi hj hij => by
    rw [getN (by omega), getN (by omega)]
    exact nd_ne hcn _ _ hij
  have hrd : ∀ i j, i < K → j < K → i ≠ j → rows.getD i 0 ≠ rows.getD j 0 := fun i j hi hj hij => by
    rw [getN (by omega), getN (by omega)]
    exact nd_ne hrn _ _ hij
  have hne : ∀ i j, i < K → j < K → ys.getD (cols.getD i 0) 0 ≠ xs.getD (rows.getD j 0) 0 := fun i j hi hj => by
    rw [getD_0 (hcm i hi), getD_0 (hrm j hj)]
    exact fun e => hxy _ (List.getElem_mem (hrm j hj)) _ (List.getElem_mem (hcm i hi)) e.symm
  have base := Lin.cauchyLI K (fun i => ys.getD (cols.getD i 0) 0) (fun j => xs.getD (rows.getD j 0) 0)
    (fun i j hi hj hij => by
      show ys.getD (cols.getD i 0) 0 ≠ ys.getD (cols.getD j 0) 0
      rw [getD_0 (hcm i hi), getD_0 (hcm j hj)]
      exact nd_ne hy _ _ (hcd i j hi hj hij))
    (fun i j hi hj hij => by
      show xs.getD (rows.getD i 0) 0 ≠ xs.getD (rows.getD j 0) 0
      rw [getD_0 (hrm i hi), getD_0 (hrm j hj)]
      exact nd_ne hx _ _ (hrd i j hi hj hij)) hne
  intro c h j hj
  refine base c (fun k hk => ?_) j hj
  refine Eq.trans (Lin.sm_congr fun i hi => ?_) (h k hk)
  rw [sq_fl hrl hcl hr hc hi hk, cau_gi (fun e => hne i k hi hk e.symm)]
  show Lin.gm (c i) (Lin.gi (ys.getD (cols.getD i 0) 0 ^^^ xs.getD (rows.getD k 0) 0)) = _
  rw [UInt8.xor_comm]
/-- Distinct numbers from 0, below a bound. -/
def dsB (xs : List Int) (b : Int) : Bool := decide (xs.Nodup ∧ ∀ x ∈ xs, 0 ≤ x ∧ x < b)
theorem ds_nat {xs : List Int} {b : Nat} (h : dsB xs b = true) : (xs.map Int.toNat).Nodup ∧ (∀ x ∈ xs.map Int.toNat, x < b) ∧ ∀ x ∈ xs, 0 ≤ x ∧ x < (b : Int) := by
  obtain ⟨h1, h2⟩ := of_decide_eq_true h
  refine ⟨List.pairwise_map.2 (List.Pairwise.imp_of_mem (fun {a c} ha hc hne => ?_) h1), fun x hx => ?_, h2⟩
  · have := h2 a ha
    have := h2 c hc
    omega
  · obtain ⟨y, hy, rfl⟩ := List.mem_map.1 hx
    have := h2 y hy
    omega
set_option maxHeartbeats 1000000 in
theorem lawDistinct (Ar : Option Addr) (m kr : Nat) (xs : List Int) (b : Nat) (w : World) (B : Nat) (hB : B ≤ w.heap.size) (h : Rd w B Ar (xs.map (Value.int .i64))) (hl : xs.length = m) (hm : m ≤ 1000000) :
    Calls Try.prog 27 #[.slice Ar m kr, .int .i64 (b : Int)] w fun e w' => e = .returned (.bool (dsB xs b)) ∧ Below w.heap.size w w' := by
  have HXD := Lib.hid h
  have HL := Lib.hid hl
  obtain ⟨r, hr⟩ : ∃ r, Hid (dsB xs b = r) := ⟨_, rfl⟩
  rw [hr.out]
  have HNO : Hid (¬ (xs.Nodup ∧ ∀ x ∈ xs, 0 ≤ x ∧ x < (b : Int)) → r = false) := Lib.hid fun e => by rw [← hr.out]; exact decide_eq_false e
  have HYE : Hid ((xs.Nodup ∧ ∀ x ∈ xs, 0 ≤ x ∧ x < (b : Int)) → r = true) := Lib.hid fun e => by rw [← hr.out]; exact decide_eq_true e
  clear hr h hl
  go_enter Try.func27, Try.ntmps27
  go_wp2
  go_loopw [5, 6] (fun i _ wr => ∃ p : Nat, i = .int .i64 p ∧ p ≤ m ∧ Hid ((xs.take p).Nodup ∧ ∀ x ∈ xs.take p, 0 ≤ x ∧ x < (b : Int)) ∧ Hid (Below w.heap.size w wr)) (fun i _ _ => m - (intOf i).toNat)
  case atStart => exact ⟨0, rfl, Nat.zero_le _, Lib.hid ⟨by simp, fun x hx => by simp at hx⟩, Lib.hid (Below.refl _ _)⟩
  case round =>
    obtain ⟨p, rfl, hp, hA, hbl⟩ := hrel
    by_cases hlt : p < m
    · have hpl : p < xs.length := by rw [HL.out]; exact hlt
      obtain ⟨ad, rfl, hab, hcx0⟩ := rd_i64 HXD.out hpl
      have labw : (ad.add p).block < w.heap.size := by rw [addr_add_block]; omega
      have hcx := (hbl.out.cell labw).trans hcx0
      have HTK := Lib.hid (List.take_succ_eq_append_getElem hpl)
      have HME := Lib.hid (List.getElem_mem hpl)
      generalize xs[p] = x at *
      by_cases hx0 : x < 0
      · obtain rfl := HNO.out (fun e => by have := (e.2 x HME.out).1; omega)
        go_wp2
        go_ret
        exact ⟨rfl, hbl.out⟩
      have d1 : decide (x < 0) = false := decide_eq_false hx0
      by_cases hx1 : (b : Int) ≤ x
      · obtain rfl := HNO.out (fun e => by have := (e.2 x HME.out).2; omega)
        go_wp2
        go_ret
        exact ⟨rfl, hbl.out⟩
      have d2 : decide ((b : Int) ≤ x) = false := decide_eq_false hx1
      have HX2 : Hid (0 ≤ x ∧ x < (b : Int)) := Lib.hid ⟨by omega, by omega⟩
      clear hx0 hx1
      go_wp2
      go_loopw [6] (fun i wr => ∃ q : Nat, i = .int .i64 q ∧ q ≤ p ∧ Hid (∀ y ∈ xs.take q, y ≠ x) ∧ Hid (Below w.heap.size w wr)) (fun i _ => p - (intOf i).toNat)
      case atStart => exact ⟨0, rfl, Nat.zero_le _, Lib.hid (by intro y hy; simp at hy), hbl⟩
      case round =>
        clear hbl hcx
        obtain ⟨q, rfl, hq, hN, hbl⟩ := hrel
        by_cases hlq : q < p
        · have hqm : q < m := by omega
          have hql : q < xs.length := by rw [HL.out]; exact hqm
          obtain ⟨ad', had, hab', hcy0⟩ := rd_i64 HXD.out hql
          obtain rfl := Option.some.inj had
          have lab2 : (ad.add q).block < w.heap.size := by rw [addr_add_block]; omega
          have HTQ := Lib.hid (List.take_succ_eq_append_getElem hql)
          have HMQ : Hid (xs[q] ∈ xs.take p) := Lib.hid (by
            have hq2 : q < (xs.take p).length := by rw [List.length_take]; omega
            have := List.getElem_mem hq2
            rwa [List.getElem_take] at this)
          generalize xs[q] = y at *
          have hB1 : Below w.heap.size w wr.drew := below_drewN hbl.out 1
          by_cases hxy : x = y
          · subst hxy
            obtain rfl := HNO.out (fun e => by
              have h1 := e.1
              have h2 := (List.take_sublist (p + 1) xs).nodup h1
              rw [HTK.out, List.nodup_append] at h2
              exact h2.2.2 x HMQ.out x (by simp) rfl)
            have HBF := Lib.hid hB1
            go_wp2
            refine wp_region_held_drew (S := (fun wQq => Below w.heap.size w wQq)) (by kernel_rfl) (hB1) (fun _ => ?_)
            refine wpAnyH_take (i := 0) (v := ?_) rfl (by kernel_rfl) (by kernel_rfl) (by kernel_rfl) (fun _ _ _ h => h) (Or.inl ⟨by rfl, ?_⟩) (hB1) ?_
            rotate_left
            · intro wS hSw
              go_simp
              try with_reducible rfl
            try simp only [List.getElem_toArray, List.getElem_cons_zero, List.getElem_cons_succ, Act.put, List.setIfInBounds_toArray, List.set_cons_zero, List.set_cons_succ]
            refine wpAnyH_take (i := 1) (v := ?_) rfl (by kernel_rfl) (by kernel_rfl) (by kernel_rfl) (fun _ _ _ h => h) (Or.inl ⟨by rfl, ?_⟩) (hB1) ?_
            rotate_left
            · intro wS hSw
              go_simp
              try with_reducible rfl
            try simp only [List.getElem_toArray, List.getElem_cons_zero, List.getElem_cons_succ, Act.put, List.setIfInBounds_toArray, List.set_cons_zero, List.set_cons_succ]
            refine wpAnyH_take (i := 2) (v := ?_) rfl (by kernel_rfl) (by kernel_rfl) (by kernel_rfl) (fun _ _ _ h => h) (Or.inl ⟨by rfl, ?_⟩) (hB1) ?_
            rotate_left
            · intro wS hSw
              go_simp
              try with_reducible rfl
            try simp only [List.getElem_toArray, List.getElem_cons_zero, List.getElem_cons_succ, Act.put, List.setIfInBounds_toArray, List.set_cons_zero, List.set_cons_succ]
            refine wpAnyH_take (i := 4) (v := ?_) rfl (by kernel_rfl) (by kernel_rfl) (by kernel_rfl) (fun _ _ _ h => h) (Or.inl ⟨by rfl, ?_⟩) (hB1) ?_
            rotate_left
            · intro wS hSw
              go_simp
              try with_reducible rfl
            try simp only [List.getElem_toArray, List.getElem_cons_zero, List.getElem_cons_succ, Act.put, List.setIfInBounds_toArray, List.set_cons_zero, List.set_cons_succ]
            refine wpAnyH_take (i := 5) (v := ?_) rfl (by kernel_rfl) (by kernel_rfl) (by kernel_rfl) (fun _ _ _ h => h) (Or.inl ⟨by rfl, ?_⟩) (hB1) ?_
            rotate_left
            · intro wS hSw
              go_simp
              try with_reducible rfl
            try simp only [List.getElem_toArray, List.getElem_cons_zero, List.getElem_cons_succ, Act.put, List.setIfInBounds_toArray, List.set_cons_zero, List.set_cons_succ]
            refine wpAnyH_take (i := 6) (v := ?_) rfl (by kernel_rfl) (by kernel_rfl) (by kernel_rfl) (fun _ _ _ h => h) (Or.inl ⟨by rfl, ?_⟩) (hB1) ?_
            rotate_left
            · intro wS hSw
              go_simp
              try with_reducible rfl
            try simp only [List.getElem_toArray, List.getElem_cons_zero, List.getElem_cons_succ, Act.put, List.setIfInBounds_toArray, List.set_cons_zero, List.set_cons_succ]
            refine wpAnyH_take (i := 3) (v := ?_) rfl (by kernel_rfl) (by kernel_rfl) (by kernel_rfl) (fun _ _ _ h => h) (Or.inl ⟨by rfl, ?_⟩) (hB1) ?_
            rotate_left
            · intro wS hSw
              have hcv := (hSw.cell (p := ad.add p) (by exact labw)).trans hcx0
              go_simp
              try with_reducible rfl
            try simp only [List.getElem_toArray, List.getElem_cons_zero, List.getElem_cons_succ, Act.put, List.setIfInBounds_toArray, List.set_cons_zero, List.set_cons_succ]
            refine wpAnyH_take (i := 7) (v := ?_) rfl (by kernel_rfl) (by kernel_rfl) (by kernel_rfl) (fun _ _ _ h => h) (Or.inl ⟨by rfl, ?_⟩) (hB1) ?_
            rotate_left
            · intro wS hSw
              have hcv := (hSw.cell (p := ad.add q) (by exact lab2)).trans hcy0
              go_simp
              try with_reducible rfl
            try simp only [List.getElem_toArray, List.getElem_cons_zero, List.getElem_cons_succ, Act.put, List.setIfInBounds_toArray, List.set_cons_zero, List.set_cons_succ]
            refine wpAnyH_take (i := 8) (v := ?_) rfl (by kernel_rfl) (by kernel_rfl) (by kernel_rfl) (fun _ _ _ h => h) (Or.inl ⟨by rfl, ?_⟩) (hB1) ?_
            rotate_left
            · intro wS hSw
              go_simp
              try with_reducible rfl
            try simp only [List.getElem_toArray, List.getElem_cons_zero, List.getElem_cons_succ, Act.put, List.setIfInBounds_toArray, List.set_cons_zero, List.set_cons_succ]
            refine wpAnyH_done (by kernel_rfl) ?_ _
            go_wp2
            go_ret
            exact ⟨rfl, HBF.out⟩
          · have HN2 : Hid (∀ z ∈ xs.take (q + 1), z ≠ x) := Lib.hid (by
              rw [HTQ.out]
              intro z hz
              rcases List.mem_append.1 hz with hz | hz
              · exact hN.out z hz
              · rw [List.mem_singleton] at hz
                subst hz
                exact fun e => hxy e.symm)
            have d3 : (x == y) = false := by simpa using hxy
            have HBF := Lib.hid hB1
            clear hN
            go_wp2
            refine wp_region_held_drew (S := (fun wQq => Below w.heap.size w wQq)) (by kernel_rfl) (hB1) (fun _ => ?_)
            refine wpAnyH_take (i := 0) (v := ?_) rfl (by kernel_rfl) (by kernel_rfl) (by kernel_rfl) (fun _ _ _ h => h) (Or.inl ⟨by rfl, ?_⟩) (hB1) ?_
            rotate_left
            · intro wS hSw
              go_simp
              try with_reducible rfl
            try simp only [List.getElem_toArray, List.getElem_cons_zero, List.getElem_cons_succ, Act.put, List.setIfInBounds_toArray, List.set_cons_zero, List.set_cons_succ]
            refine wpAnyH_take (i := 1) (v := ?_) rfl (by kernel_rfl) (by kernel_rfl) (by kernel_rfl) (fun _ _ _ h => h) (Or.inl ⟨by rfl, ?_⟩) (hB1) ?_
            rotate_left
            · intro wS hSw
              go_simp
              try with_reducible rfl
            try simp only [List.getElem_toArray, List.getElem_cons_zero, List.getElem_cons_succ, Act.put, List.setIfInBounds_toArray, List.set_cons_zero, List.set_cons_succ]
            refine wpAnyH_take (i := 2) (v := ?_) rfl (by kernel_rfl) (by kernel_rfl) (by kernel_rfl) (fun _ _ _ h => h) (Or.inl ⟨by rfl, ?_⟩) (hB1) ?_
            rotate_left
            · intro wS hSw
              go_simp
              try with_reducible rfl
            try simp only [List.getElem_toArray, List.getElem_cons_zero, List.getElem_cons_succ, Act.put, List.setIfInBounds_toArray, List.set_cons_zero, List.set_cons_succ]
            refine wpAnyH_take (i := 4) (v := ?_) rfl (by kernel_rfl) (by kernel_rfl) (by kernel_rfl) (fun _ _ _ h => h) (Or.inl ⟨by rfl, ?_⟩) (hB1) ?_
            rotate_left
            · intro wS hSw
              go_simp
              try with_reducible rfl
            try simp only [List.getElem_toArray, List.getElem_cons_zero, List.getElem_cons_succ, Act.put, List.setIfInBounds_toArray, List.set_cons_zero, List.set_cons_succ]
            refine wpAnyH_take (i := 5) (v := ?_) rfl (by kernel_rfl) (by kernel_rfl) (by kernel_rfl) (fun _ _ _ h => h) (Or.inl ⟨by rfl, ?_⟩) (hB1) ?_
            rotate_left
            · intro wS hSw
              go_simp
              try with_reducible rfl
            try simp only [List.getElem_toArray, List.getElem_cons_zero, List.getElem_cons_succ, Act.put, List.setIfInBounds_toArray, List.set_cons_zero, List.set_cons_succ]
            refine wpAnyH_take (i := 6) (v := ?_) rfl (by kernel_rfl) (by kernel_rfl) (by kernel_rfl) (fun _ _ _ h => h) (Or.inl ⟨by rfl, ?_⟩) (hB1) ?_
            rotate_left
            · intro wS hSw
              go_simp
              try with_reducible rfl
            try simp only [List.getElem_toArray, List.getElem_cons_zero, List.getElem_cons_succ, Act.put, List.setIfInBounds_toArray, List.set_cons_zero, List.set_cons_succ]
            refine wpAnyH_take (i := 3) (v := ?_) rfl (by kernel_rfl) (by kernel_rfl) (by kernel_rfl) (fun _ _ _ h => h) (Or.inl ⟨by rfl, ?_⟩) (hB1) ?_
            rotate_left
            · intro wS hSw
              have hcv := (hSw.cell (p := ad.add p) (by exact labw)).trans hcx0
              go_simp
              try with_reducible rfl
            try simp only [List.getElem_toArray, List.getElem_cons_zero, List.getElem_cons_succ, Act.put, List.setIfInBounds_toArray, List.set_cons_zero, List.set_cons_succ]
            refine wpAnyH_take (i := 7) (v := ?_) rfl (by kernel_rfl) (by kernel_rfl) (by kernel_rfl) (fun _ _ _ h => h) (Or.inl ⟨by rfl, ?_⟩) (hB1) ?_
            rotate_left
            · intro wS hSw
              have hcv := (hSw.cell (p := ad.add q) (by exact lab2)).trans hcy0
              go_simp
              try with_reducible rfl
            try simp only [List.getElem_toArray, List.getElem_cons_zero, List.getElem_cons_succ, Act.put, List.setIfInBounds_toArray, List.set_cons_zero, List.set_cons_succ]
            refine wpAnyH_take (i := 8) (v := ?_) rfl (by kernel_rfl) (by kernel_rfl) (by kernel_rfl) (fun _ _ _ h => h) (Or.inl ⟨by rfl, ?_⟩) (hB1) ?_
            rotate_left
            · intro wS hSw
              go_simp
              try with_reducible rfl
            try simp only [List.getElem_toArray, List.getElem_cons_zero, List.getElem_cons_succ, Act.put, List.setIfInBounds_toArray, List.set_cons_zero, List.set_cons_succ]
            refine wpAnyH_done (by kernel_rfl) ?_ _
            go_wp2
            go_roundw
            case rel => exact ⟨q + 1, by go_num, hlq, HN2, HBF⟩
            case measure => simp [intOf]; omega
        · obtain rfl : q = p := by omega
          have HA2 : Hid ((xs.take (q + 1)).Nodup ∧ ∀ x ∈ xs.take (q + 1), 0 ≤ x ∧ x < (b : Int)) := Lib.hid (by
            rw [HTK.out]
            refine ⟨List.nodup_append.2 ⟨hA.out.1, by simp, fun a ha c hc => ?_⟩, fun z hz => ?_⟩
            · rw [List.mem_singleton] at hc
              subst hc
              exact hN.out a ha
            · rcases List.mem_append.1 hz with hz | hz
              · exact hA.out.2 z hz
              · rw [List.mem_singleton] at hz
                subst hz
                exact HX2.out)
          clear hA hN
          go_wp2
          go_roundw
          case rel => exact ⟨q + 1, by go_num, hlt, HA2, hbl⟩
          case measure => simp [intOf]; omega
    · obtain rfl : p = m := by omega
      obtain rfl := HYE.out (by
        have := hA.out
        rwa [List.take_of_length_le (by rw [HL.out]; exact Nat.le_refl _)] at this)
      go_wp2
      go_ret
      exact ⟨rfl, hbl.out⟩
set_option maxHeartbeats 1600000 in
theorem matCauchyNo (g : Nat) (A1 A2 : Option Addr) (n1 n2 c1 c2 : Nat) (xs ys : List UInt8) (w : World) (h : Fld w g) (B : Nat) (hB : B ≤ w.heap.size) (hx : Rd w B A1 (xs.map bv)) (hy : Rd w B A2 (ys.map bv)) (hxg : ∀ ad, A1 = some ad → ad.block ≠ g) (hyg : ∀ ad, A2 = some ad → ad.block ≠ g)
    (hn1 : xs.length = n1) (hn2 : ys.length = n2) (hc1 : n1 ≤ c1) (hc2 : n2 ≤ c2) (hm1 : c1 ≤ maxLen) (hm2 : c2 ≤ maxLen) (h1 : 1 ≤ n1 ∧ n1 ≤ 255) (h2 : 1 ≤ n2 ∧ n2 ≤ 255) (hnd : ¬ (xs ++ ys).Nodup) :
    Calls Try.prog 28 #[.pointer (some ⟨g, 0, none⟩), .slice A1 n1 c1, .slice A2 n2 c2] w (NoM g 2 w) := by
  have hz : Below w.heap.size w ((((w.alloc (.cells #[.pointer (some ⟨g, 0, none⟩)] 27)).alloc (.cells #[.slice A1 n1 c1] 22)).alloc (.cells #[.slice A2 n2 c2] 22)).alloc (.cells (mv 0 0 none 0 0) 24)) := ((((Below.refl _ _).alloc (Nat.le_refl _) _).alloc (by simp) _).alloc (by simp; omega) _).alloc (by simp; omega) _
  have hcw := CauW.new w g A1 A2 n1 n2 c1 c2
  have hfa : Fld ((((w.alloc (.cells #[.pointer (some ⟨g, 0, none⟩)] 27)).alloc (.cells #[.slice A1 n1 c1] 22)).alloc (.cells #[.slice A2 n2 c2] 22)).alloc (.cells (mv 0 0 none 0 0) 24)) g := by
    rcases h with h | h
    · exact .inl (h.below hz h.lt)
    · exact .inr (h.below hz h.lt)
  have hgl := h.lt
  have hw1 : wi (n1 : Int) = true := wi_true.2 (by omega)
  have hw2 : wi (n2 : Int) = true := wi_true.2 (by omega)
  have HW1 := Lib.hid (fun W => matWithin (n1 : Int) W)
  have HW2 := Lib.hid (fun W => matWithin (n2 : Int) W)
  rw [hw1] at HW1
  rw [hw2] at HW2
  have HX := Lib.hid hx
  have HY := Lib.hid hy
  have HN1 := Lib.hid hn1
  have HN2 := Lib.hid hn2
  have HGL := Lib.hid hgl
  clear h hw1 hw2 hx hy hn1 hn2 hgl
  go_enter Try.func28, Try.ntmps28
  go_wp2_with fail
  refine (matNobody g _ hfa).mono ?_
  rintro e w1 ⟨rfl, ha⟩
  have hs1 := ha.stp2 hz
  have hcw1 := hcw.aft ha HGL.out
  clear ha hcw hz hfa
  have hc3 := hcw1.b3.cell 0
  have hc4 := hcw1.b4.cell 0
  have hc5 := hcw1.b5.cell 0
  simp only [List.getElem?_toArray, List.getElem?_cons_zero] at hc3 hc4 hc5
  have hlt6 := hcw1.b6.lt
  have hlt5 := hcw1.b5.lt
  have hlt4 := hcw1.b4.lt
  have HS1 := Lib.hid hs1
  have HCW1 := Lib.hid hcw1
  clear hs1 hcw1
  go_wp2_with (first | (go_at_call 41; first | (refine (HW1.out _).mono ?_; rintro e w' ⟨rfl, rfl⟩) | (refine (HW2.out _).mono ?_; rintro e w' ⟨rfl, rfl⟩)))
  have hal : Below w'.heap.size w' (w'.alloc (.cells #[.slice A1 n1 c1, .slice A2 n2 c2] 22)) := (Below.refl _ _).alloc (Nat.le_refl _) _
  have hX1 := (HS1.out.rd HX.out hB hxg).more (Nat.le_trans hB HS1.out.size)
  have hY1 := (HS1.out.rd HY.out hB hyg).more (Nat.le_trans hB HS1.out.size)
  refine (matTwice [⟨A1, n1, c1, xs⟩, ⟨A2, n2, c2, ys⟩] _ (some ⟨w'.heap.size, 0, none⟩) 2 2 _ (Rd.new w' _ _ _ rfl) (RowsAt.cons ⟨(hX1.below hal).more (by simp), HN1.out, hc1, hm1⟩ (RowsAt.cons ⟨(hY1.below hal).more (by simp), HN2.out, hc2, hm2⟩ RowsAt.nil)) (by simp) rfl (by decide) (by intro r hr; simp at hr; rcases hr with rfl | rfl <;> simp <;> omega)).mono ?_
  rintro e w2 ⟨⟨x, rfl, hxx⟩, hb2⟩
  have hb3 := hal.trans (hb2.mono hal.size)
  have hxt : x = true := by
    cases x
    · exact absurd (by have := hxx.1 rfl; rw [flat_two] at this; exact this) hnd
    · rfl
  subst hxt
  have HCW2 := Lib.hid (HCW1.out.below hb3)
  have HS2 := Lib.hid (HS1.out.via hb3)
  have hr6 := HCW2.out.b6
  have HFIN := Lib.hid fun (W : World) (e : W = w2.setRow (w.heap.size + 1 + 1 + 1) (mv 0 0 none 0 0)) => (⟨by subst e; exact hr6.row _, by subst e; exact HS2.out.setRow (by omega) (by have := HGL.out; omega) _⟩ : Blk W (w.heap.size + 1 + 1 + 1) 24 (mv 0 0 none 0 0) ∧ Stp g w W)
  clear hal hX1 hY1 hxx hb2 hb3 HCW1 HS1 hc3 hc4 hc5 HW1 HW2
  go_wp2_with (refine wpList_store_row rfl 24 (.tmp 6) (.tmp 29) rfl (w.heap.size + 1 + 1 + 1) (mv 0 0 none 0 0) rfl rfl 24 (mv 0 0 none 0 0) hr6 matInfo3 rfl (mv_one _ _ _ _ _) ?_)
  refine bodyPost_ret (results_mat2 (g := w.heap.size + 1 + 1 + 1) (te := 24) (cs := mv 0 0 none 0 0) (fr := (0, 0)) rfl _ _ _ rfl (HFIN.out _ rfl).1 Try.underlying24 rfl matInfo3) rfl ⟨rfl, (HFIN.out _ rfl).2⟩
theorem mulM (g ra ca cb : Nat) (A1 A2 : Option Addr) (n1 k1 n2 k2 : Nat) (as_ bs : List UInt8) (w : World) (h : Fld w g) (h1 : MIn g w A1 n1 k1 as_) (h2 : MIn g w A2 n2 k2 bs) (e1 : n1 = ra * ca) (e2 : n2 = ca * cb) (hra : 1 ≤ ra ∧ ra ≤ 255) (hca : 1 ≤ ca ∧ ca ≤ 255) (hcb : 1 ≤ cb ∧ cb ≤ 255) :
    Calls Try.prog 20 #[.pointer (some ⟨g, 0, none⟩), .agg #[.int .i64 ra, .int .i64 ca, .slice A1 n1 k1], .agg #[.int .i64 ca, .int .i64 cb, .slice A2 n2 k2]] w fun e w' => ∃ A k, e = .returned (.tuple #[.agg #[.int .i64 ra, .int .i64 cb, .slice A (ra * cb) k], .int .i64 0]) ∧ w'.ownsRow w.heap.size 5 1 (.slice A (ra * cb) k) (ra * cb) ((Lin.mulL ra ca cb as_ bs).map bv) ∧ Stp g w w' := by
  have p1 : 0 < n1 := by rw [e1]; exact Nat.mul_pos (by omega) (by omega)
  have p2 : 0 < n2 := by rw [e2]; exact Nat.mul_pos (by omega) (by omega)
  refine (matMul g ra ca cb A1 A2 n1 k1 n2 k2 as_ bs w h h1.rd h2.rd (h1.off p1) (h2.off p2) (h1.len.trans e1) (h2.len.trans e2) e1 e2 h1.cap h2.cap hra hca hcb).mono ?_
  rintro e w' ⟨A, k, rfl, _, ho, hs⟩
  exact ⟨A, k, rfl, ho, hs⟩
theorem invLI (r : Nat) (A : Option Addr) (k : Nat) (bs : List UInt8) (g : Nat) (W : World) (hf : Fld W g) (h : MIn g W A (r * r) k bs) (hr : 1 ≤ r ∧ r ≤ 255) (hi : Lin.LI r r (Lin.fl r bs)) :
    Calls Try.prog 12 #[.pointer (some ⟨g, 0, none⟩), .agg #[.int .i64 r, .int .i64 r, .slice A (r * r) k]] W fun e w' => ∃ Z, Lin.Inv r (Lin.fl r bs) (Lin.fl r Z) ∧ Z.length = r * r ∧
      ∃ A' k', e = .returned (.tuple #[.agg #[.int .i64 r, .int .i64 r, .slice A' (r * r) k'], .int .i64 0]) ∧ w'.ownsRow W.heap.size 5 1 (.slice A' (r * r) k') (r * r) (Z.map bv) ∧ Stp g W w' := by
  have p1 : 0 < r * r := Nat.mul_pos (by omega) (by omega)
  refine (matInvert g r A k bs W hf h.rd (h.off p1) h.len h.cap hr.1 hr.2).mono fun e w' hR => ?_
  rcases hR with ⟨Z, hZ, A4, k4, he, hZl, ho, hs⟩ | ⟨q, hq, hrk, _⟩
  · exact ⟨Z, hZ, hZl, A4, k4, he, ho, hs⟩
  · have := hi.full hrk
    omega
theorem rankLI (r : Nat) (A : Option Addr) (k : Nat) (bs : List UInt8) (g : Nat) (W : World) (hf : Fld W g) (h : MIn g W A (r * r) k bs) (hr : 1 ≤ r ∧ r ≤ 255) (hi : Lin.LI r r (Lin.fl r bs)) :
    Calls Try.prog 16 #[.pointer (some ⟨g, 0, none⟩), .agg #[.int .i64 r, .int .i64 r, .slice A (r * r) k]] W fun e w' => e = .returned (.int .i64 (r : Int)) ∧ Stp g W w' := by
  have p1 : 0 < r * r := Nat.mul_pos (by omega) (by omega)
  have := matRank g r r A k bs W hf h.rd (h.off p1) h.len h.cap hr.1 hr.2 hr.1 hr.2
  rw [hi.full (Lin.rankF_rk h.len)] at this
  exact this
theorem pickM (r c : Nat) (A : Option Addr) (k : Nat) (bs : List UInt8) (Ar : Option Addr) (m kr : Nat) (xs : List Int) (W : World) (h1 : Rd W W.heap.size A (bs.map bv)) (h2 : Rd W W.heap.size Ar (xs.map (Value.int .i64))) (hl1 : bs.length = r * c) (hl2 : xs.length = m) (hk : r * c ≤ k) (hr : 1 ≤ r ∧ r ≤ 255) (hc : 1 ≤ c ∧ c ≤ 255) (hm : 1 ≤ m ∧ m ≤ 255) (hx : ∀ x ∈ xs, 0 ≤ x ∧ x < (r : Int)) :
    Calls Try.prog 21 #[.agg #[.int .i64 r, .int .i64 c, .slice A (r * c) k], .slice Ar m kr] W fun e w' => ∃ A' k', e = .returned (.tuple #[.agg #[.int .i64 m, .int .i64 c, .slice A' (m * c) k'], .int .i64 0]) ∧ w'.ownsRow W.heap.size 5 1 (.slice A' (m * c) k') (m * c) ((Lin.pickL c bs (xs.map Int.toNat)).map bv) ∧ Below W.heap.size W w' := by
  have hle : r * c ≤ 65025 := Nat.mul_le_mul hr.2 hc.2
  have hp : pkB (r : Int) (c : Int) (r * c) xs = true := pkB_true.2 ⟨mr_true.2 ⟨by omega, by omega, by simp⟩, wi_true.2 (by omega), hx⟩
  refine (matPick r c A (r * c) k bs Ar m kr xs W h1 h2 hl1 hl2 hk (by omega) (by omega)).mono fun e w' hR => ?_
  rcases hR with ⟨_, A', k', he, ho, hb⟩ | ⟨hf, _⟩
  · rw [hl2, Int.toNat_natCast] at he ho
    exact ⟨A', k', he, ho, hb⟩
  · rw [hp] at hf
    cases hf
set_option maxHeartbeats 2000000 in
theorem lawSquaresFew (A1 : Option Addr) (n1 k1 : Nat) (A2 : Option Addr) (n2 k2 : Nat) (Ar : Option Addr) (m1 kr : Nat) (rs : List Int) (Ac : Option Addr) (m2 kc : Nat) (cs : List Int) (w : World) (h3 : Rd w w.heap.size Ar (rs.map (Value.int .i64))) (h4 : Rd w w.heap.size Ac (cs.map (Value.int .i64))) (hl3 : rs.length = m1) (hl4 : cs.length = m2) (hm1 : n1 ≤ maxLen) (hm2 : n2 ≤ maxLen) (hm3 : m1 ≤ maxLen) (hm4 : m2 ≤ maxLen)
    (hno : 20 < n1 ∨ 20 < n2 ∨ 10 < m1 ∨ m1 = 0 ∨ m1 ≠ m2 ∨ dsB rs n1 = false ∨ dsB cs n2 = false) :
    Calls Try.prog 8 #[.slice A1 n1 k1, .slice A2 n2 k2, .slice Ar m1 kr, .slice Ac m2 kc] w fun e w' => e = .returned (.bool true) ∧ Below w.heap.size w w' := by
  unfold maxLen at hm1 hm2 hm3 hm4
  have HS := Lib.hid (fun W => lawStands W)
  by_cases c1 : 20 < n1
  · go_enter Try.func8, Try.ntmps8
    go_wp2_with fail
    refine (HS.out _).mono ?_
    rintro e w2 ⟨rfl, hb2⟩
    go_wp2
    go_ret
    exact ⟨rfl, hb2⟩
  by_cases c2 : 20 < n2
  · go_enter Try.func8, Try.ntmps8
    go_wp2_with fail
    refine (HS.out _).mono ?_
    rintro e w2 ⟨rfl, hb2⟩
    go_wp2
    go_ret
    exact ⟨rfl, hb2⟩
  by_cases c3 : 10 < m1
  · go_enter Try.func8, Try.ntmps8
    go_wp2_with fail
    refine (HS.out _).mono ?_
    rintro e w2 ⟨rfl, hb2⟩
    go_wp2
    go_ret
    exact ⟨rfl, hb2⟩
  by_cases c4 : m1 = 0
  · subst c4
    go_enter Try.func8, Try.ntmps8
    go_wp2_with fail
    refine (HS.out _).mono ?_
    rintro e w2 ⟨rfl, hb2⟩
    go_wp2
    go_ret
    exact ⟨rfl, hb2⟩
  by_cases c5 : m1 ≠ m2
  · have d5 : ((m1 : Int) != (m2 : Int)) = true := by simp; omega
    go_enter Try.func8, Try.ntmps8
    go_wp2_with fail
    refine (HS.out _).mono ?_
    rintro e w2 ⟨rfl, hb2⟩
    go_wp2
    go_ret
    exact ⟨rfl, hb2⟩
  obtain rfl : m1 = m2 := Classical.not_not.1 c5
  have c4' : ((m1 : Int) == 0) = false := by simp; omega
  have HDA := Lib.hid fun W (hb : Below w.heap.size w W) => lawDistinct Ar m1 kr rs n1 W w.heap.size hb.size (h3.below hb) hl3 (by omega)
  have HDB := Lib.hid fun W (hb : Below w.heap.size w W) => lawDistinct Ac m1 kc cs n2 W w.heap.size hb.size (h4.below hb) hl4 (by omega)
  obtain ⟨b1, hb1⟩ : ∃ b, dsB rs n1 = b := ⟨_, rfl⟩
  obtain ⟨b2, hb2⟩ : ∃ b, dsB cs n2 = b := ⟨_, rfl⟩
  rw [hb1] at HDA hno
  rw [hb2] at HDB hno
  have hno' : b1 = false ∨ b2 = false := by
    rcases hno with h | h | h | h | h | h | h
    · omega
    · omega
    · omega
    · omega
    · exact absurd rfl h
    · exact .inl h
    · exact .inr h
  clear hno hb1 hb2 h3 h4 hl3 hl4
  cases b1
  · go_enter Try.func8, Try.ntmps8
    go_wp2_with fail
    refine (HDA.out _ (Below.refl _ _)).mono ?_
    rintro e wa ⟨rfl, hba⟩
    go_wp2_with fail
    refine (HS.out _).mono ?_
    rintro e w2 ⟨rfl, hb2⟩
    go_wp2
    go_ret
    exact ⟨rfl, hba.via hb2⟩
  · obtain rfl := hno'.resolve_left (by decide)
    go_enter Try.func8, Try.ntmps8
    go_wp2_with fail
    refine (HDA.out _ (Below.refl _ _)).mono ?_
    rintro e wa ⟨rfl, hba⟩
    go_wp2_with fail
    refine (HDB.out _ hba).mono ?_
    rintro e wb ⟨rfl, hbb⟩
    go_wp2_with fail
    refine (HS.out _).mono ?_
    rintro e w2 ⟨rfl, hb2⟩
    go_wp2
    go_ret
    exact ⟨rfl, (hba.via hbb).via hb2⟩
set_option maxHeartbeats 2000000 in
theorem lawSquaresNo (A1 : Option Addr) (n1 k1 : Nat) (xs : List UInt8) (A2 : Option Addr) (n2 k2 : Nat) (ys : List UInt8) (Ar : Option Addr) (K kr : Nat) (rs : List Int) (Ac : Option Addr) (kc : Nat) (cs : List Int) (w : World) (h1 : Rd w w.heap.size A1 (xs.map bv)) (h2 : Rd w w.heap.size A2 (ys.map bv)) (h3 : Rd w w.heap.size Ar (rs.map (Value.int .i64))) (h4 : Rd w w.heap.size Ac (cs.map (Value.int .i64))) (hl1 : xs.length = n1) (hl2 : ys.length = n2) (hl3 : rs.length = K) (hl4 : cs.length = K) (hk1 : n1 ≤ k1) (hk2 : n2 ≤ k2) (hm1 : k1 ≤ maxLen) (hm2 : k2 ≤ maxLen)
    (c1 : n1 ≤ 20) (c2 : n2 ≤ 20) (c3 : K ≤ 10) (c4 : 1 ≤ K) (hd1 : dsB rs n1 = true) (hd2 : dsB cs n2 = true) (hnd : ¬ (xs ++ ys).Nodup) :
    Calls Try.prog 8 #[.slice A1 n1 k1, .slice A2 n2 k2, .slice Ar K kr, .slice Ac K kc] w fun e w' => e = .returned (.bool true) ∧ Below w.heap.size w w' := by
  have hp1 : 1 ≤ n1 := by
    have := (ds_nat hd1).2.2 (rs[0]'(by omega)) (List.getElem_mem _)
    omega
  have hp2 : 1 ≤ n2 := by
    have := (ds_nat hd2).2.2 (cs[0]'(by omega)) (List.getElem_mem _)
    omega
  have HS := Lib.hid (fun W => lawStands W)
  have c4' : ((K : Int) == 0) = false := by simp; omega
  have HDA := Lib.hid fun W (hb : Below w.heap.size w W) => lawDistinct Ar K kr rs n1 W w.heap.size hb.size (h3.below hb) hl3 (by omega)
  have HDB := Lib.hid fun W (hb : Below w.heap.size w W) => lawDistinct Ac K kc cs n2 W w.heap.size hb.size (h4.below hb) hl4 (by omega)
  rw [hd1] at HDA
  rw [hd2] at HDB
  have HCA := Lib.hid fun g W (hf : Fld W g) (hb : Below w.heap.size w W) (hg : g ≥ w.heap.size) => matCauchyNo g A1 A2 n1 n2 k1 k2 xs ys W hf w.heap.size hb.size (h1.below hb) (h2.below hb) ((in_at h1 hl1 hk1 hb hg).off hp1) ((in_at h2 hl2 hk2 hb hg).off hp2) hl1 hl2 hk1 hk2 hm1 hm2 (by omega) (by omega) hnd
  unfold NoM at HCA
  clear h1 h2 h3 h4 hl1 hl2 hl3 hl4 hd1 hd2 hnd
  go_enter Try.func8, Try.ntmps8
  go_wp2_with fail
  refine (HDA.out _ (Below.refl _ _)).mono ?_
  rintro e wa ⟨rfl, hba⟩
  go_wp2_with fail
  refine (HDB.out _ hba).mono ?_
  rintro e wb ⟨rfl, hbb⟩
  have HBB := Lib.hid (hba.via hbb)
  clear hba hbb
  go_wp2_with fail
  refine (fldNewA _).mono ?_
  rintro e v0 ⟨rfl, hf0, hs0, hb0⟩
  have HC0 : Hid (ChP w [] [] v0) := Lib.hid ⟨fun x hx => (by cases hx), fun r hr => (by cases hr), hb0 _ _ HBB.out.size HBB.out⟩
  have HF0 := Lib.hid hf0
  have HG : Hid (wb.heap.size ≥ w.heap.size) := Lib.hid HBB.out.size
  clear hf0 hs0 hb0 HBB
  go_upto_region 4 with fail
  generalize wb.heap.size = gF at *
  go_wp2_with fail
  refine (HCA.out gF v0 HF0.out HC0.out.below HG.out).mono ?_
  rintro e w1 ⟨rfl, hs⟩
  have HC1 := Lib.hid ((HC0.out.stp HF0.out HG.out hs).via ((Below.refl w1.heap.size w1).alloc (Nat.le_refl _) (.cells (mv 0 0 none 0 0) 24)))
  clear hs
  unfold mv
  go_wp2_with fail
  refine (HS.out _).mono ?_
  rintro e wz ⟨rfl, hz⟩
  go_wp2
  go_ret
  exact ⟨rfl, HC1.out.below.via hz⟩
set_option maxHeartbeats 4000000 in
theorem lawSquaresGo (A1 : Option Addr) (n1 k1 : Nat) (xs : List UInt8) (A2 : Option Addr) (n2 k2 : Nat) (ys : List UInt8) (Ar : Option Addr) (K kr : Nat) (rs : List Int) (Ac : Option Addr) (kc : Nat) (cs : List Int) (w : World) (h1 : Rd w w.heap.size A1 (xs.map bv)) (h2 : Rd w w.heap.size A2 (ys.map bv)) (h3 : Rd w w.heap.size Ar (rs.map (Value.int .i64))) (h4 : Rd w w.heap.size Ac (cs.map (Value.int .i64))) (hl1 : xs.length = n1) (hl2 : ys.length = n2) (hl3 : rs.length = K) (hl4 : cs.length = K) (hk1 : n1 ≤ k1) (hk2 : n2 ≤ k2) (hm1 : k1 ≤ maxLen) (hm2 : k2 ≤ maxLen)
    (c1 : n1 ≤ 20) (c2 : n2 ≤ 20) (c3 : K ≤ 10) (c4 : 1 ≤ K) (hd1 : dsB rs n1 = true) (hd2 : dsB cs n2 = true) (hnd : (xs ++ ys).Nodup) :
    Calls Try.prog 8 #[.slice A1 n1 k1, .slice A2 n2 k2, .slice Ar K kr, .slice Ac K kc] w fun e w' => e = .returned (.bool true) ∧ Below w.heap.size w w' := by
  have hp1 : 1 ≤ n1 := by
    have := (ds_nat hd1).2.2 (rs[0]'(by omega)) (List.getElem_mem _)
    omega
  have hp2 : 1 ≤ n2 := by
    have := (ds_nat hd2).2.2 (cs[0]'(by omega)) (List.getElem_mem _)
    omega
  have HS := Lib.hid (fun W => lawStands W)
  have c4' : ((K : Int) == 0) = false := by simp; omega
  have HDA := Lib.hid fun W (hb : Below w.heap.size w W) => lawDistinct Ar K kr rs n1 W w.heap.size hb.size (h3.below hb) hl3 (by omega)
  have HDB := Lib.hid fun W (hb : Below w.heap.size w W) => lawDistinct Ac K kc cs n2 W w.heap.size hb.size (h4.below hb) hl4 (by omega)
  rw [hd1] at HDA
  rw [hd2] at HDB
  have HCA := Lib.hid fun g W (hf : Fld W g) (hb : Below w.heap.size w W) (hg : g ≥ w.heap.size) => matCauchy g A1 A2 n1 n2 k1 k2 xs ys W hf w.heap.size hb.size (h1.below hb) (h2.below hb) ((in_at h1 hl1 hk1 hb hg).off hp1) ((in_at h2 hl2 hk2 hb hg).off hp2) hl1 hl2 hk1 hk2 hm1 hm2 (by omega) (by omega) hnd
  unfold NewM mv at HCA
  obtain ⟨hrn, hrb, hri⟩ := ds_nat hd1
  obtain ⟨hcn, hcb, hci⟩ := ds_nat hd2
  have HDK : Hid (1 ≤ K ∧ K ≤ 255) := Lib.hid (by omega)
  have hli := sq_LI (K := K) (xs := xs) (ys := ys) (rows := rs.map Int.toNat) (cols := cs.map Int.toNat) hnd (by rw [List.length_map]; exact hl3) (by rw [List.length_map]; exact hl4) (by rw [hl1]; exact hrb) (by rw [hl2]; exact hcb) hrn hcn
  have HLI := Lib.hid hli
  have hsl : (sqL K xs ys (rs.map Int.toNat) (cs.map Int.toNat)).length = K * K := by
    unfold sqL
    rw [Lin.pickL_length, List.length_map, hl4]
  have HSL := Lib.hid hsl
  have HPA := Lib.hid fun A k W (hr : Rd W W.heap.size A ((tabN n2 (cauV xs ys) (n1 * n2)).map bv)) (hk : n1 * n2 ≤ k) (hb : Below w.heap.size w W) => pickM n1 n2 A k (tabN n2 (cauV xs ys) (n1 * n2)) Ar K kr rs W hr ((h3.below hb).more hb.size) (tabN_length _ _ _) hl3 hk (by omega) (by omega) HDK.out hri
  have HTR := Lib.hid fun A k W (hr : Rd W W.heap.size A ((Lin.pickL n2 (tabN n2 (cauV xs ys) (n1 * n2)) (rs.map Int.toNat)).map bv)) (hk : K * n2 ≤ k) => refTurned4 K n2 A (K * n2) k (Lin.pickL n2 (tabN n2 (cauV xs ys) (n1 * n2)) (rs.map Int.toNat)) W W.heap.size (Nat.le_refl _) hr (by rw [Lin.pickL_length, List.length_map, hl3]) rfl hk HDK.out.1 HDK.out.2 (by omega) (by omega)
  have HPB := Lib.hid fun A k W (hr : Rd W W.heap.size A ((Lin.turnL K n2 (Lin.pickL n2 (tabN n2 (cauV xs ys) (n1 * n2)) (rs.map Int.toNat))).map bv)) (hk : n2 * K ≤ k) (hb : Below w.heap.size w W) => pickM n2 K A k (Lin.turnL K n2 (Lin.pickL n2 (tabN n2 (cauV xs ys) (n1 * n2)) (rs.map Int.toNat))) Ac K kc cs W hr ((h4.below hb).more hb.size) (Lin.turnL_length _ _ _) hl4 hk (by omega) HDK.out HDK.out hci
  unfold sqL at HLI HSL
  rw [hl1, hl2] at HLI HSL
  unfold NewT mv at HTR
  clear h1 h2 h3 h4 hl3 hl4 hd1 hd2 hnd hri hci hrn hrb hcn hcb hli hsl
  have hsq : sqL K xs ys (rs.map Int.toNat) (cs.map Int.toNat) = Lin.pickL K (Lin.turnL K n2 (Lin.pickL n2 (tabN n2 (cauV xs ys) (n1 * n2)) (rs.map Int.toNat))) (cs.map Int.toNat) := by unfold sqL; rw [hl1, hl2]
  rw [← hsq] at HLI HSL HPB
  clear hsq hl1 hl2
  generalize rs.map Int.toNat = rn at *
  generalize cs.map Int.toNat = cn at *
  have HIDN := Lib.hid fun W => matIdentity K HDK.out.1 HDK.out.2 W
  unfold NewE mv at HIDN
  go_enter Try.func8, Try.ntmps8
  go_wp2_with fail
  refine (HDA.out _ (Below.refl _ _)).mono ?_
  rintro e wa ⟨rfl, hba⟩
  go_wp2_with fail
  refine (HDB.out _ hba).mono ?_
  rintro e wb ⟨rfl, hbb⟩
  have HBB := Lib.hid (hba.via hbb)
  clear hba hbb
  go_wp2_with fail
  refine (fldNewA _).mono ?_
  rintro e v0 ⟨rfl, hf0, hs0, hb0⟩
  have HC0 : Hid (ChP w [] [] v0) := Lib.hid ⟨fun x hx => (by cases hx), fun r hr => (by cases hr), hb0 _ _ HBB.out.size HBB.out⟩
  have HF0 := Lib.hid hf0
  have HG : Hid (wb.heap.size ≥ w.heap.size) := Lib.hid HBB.out.size
  clear hf0 hs0 hb0 HBB
  go_upto_region 4 with fail
  generalize wb.heap.size = gF at *
  go_wp2_with fail
  refine (HCA.out gF v0 HF0.out HC0.out.below HG.out).mono ?_
  rintro e w1 ⟨Am, km, rfl, hml, ho, hs⟩
  have HC1 := Lib.hid ((HC0.out.stp HF0.out HG.out hs).push HC0.out.below.size n1 n2 ho)
  have HF1 := Lib.hid (hs.full.fld.on ((Below.refl w1.heap.size w1).alloc (Nat.le_refl _) (.cells #[.int .i64 n1, .int .i64 n2, .slice Am (n1 * n2) km] 24)))
  clear ho hs HC0 HF0
  go_upto_region 7 with fail
  generalize w1.alloc _ = v1 at *
  generalize w1.heap.size = g1 at *
  clear hml
  obtain ⟨m0, m1, m2⟩ := HC1.out.cells (List.Mem.head _)
  go_wp2_with fail
  refine (HPA.out Am km v1 (Rd.of_own (HC1.out.own _ (List.Mem.head _))) (own_cap (HC1.out.own _ (List.Mem.head _))).1 HC1.out.below).mono ?_
  rintro e w2 ⟨Aa, ka, rfl, ho, hs⟩
  have HC2 := Lib.hid ((HC1.out.via hs).push HC1.out.below.size K n2 ho)
  have HF2 := Lib.hid ((HF1.out.on hs).on ((Below.refl w2.heap.size w2).alloc (Nat.le_refl _) (.cells #[.int .i64 K, .int .i64 n2, .slice Aa (K * n2) ka] 24)))
  clear m0 m1 m2
  clear ho hs HC1 HF1
  go_upto_region 10 with fail
  generalize w2.alloc _ = v2 at *
  generalize w2.heap.size = g2 at *
  clear HPA
  obtain ⟨a0, a1, a2⟩ := HC2.out.cells (List.Mem.head _)
  have HTU := Lib.hid (HTR.out Aa ka v2 (Rd.of_own (HC2.out.own _ (List.Mem.head _))) (own_cap (HC2.out.own _ (List.Mem.head _))).1)
  go_wp2_with fail
  refine HTU.out.mono ?_
  rintro e wt ⟨At, kt, rfl, htl, hto, htb⟩
  have HTO := Lib.hid hto
  have HCt := Lib.hid (HC2.out.via htb)
  have HFt := Lib.hid (HF2.out.on htb)
  clear htl hto htb HTU HTR HC2 HF2
  clear a0 a1 a2
  generalize wt = v2 at *
  have HC2 := Lib.hid HCt.out
  have HF2 := Lib.hid HFt.out
  clear HCt HFt
  go_wp2_with fail
  refine (HPB.out At kt v2 (Rd.of_own HTO.out) (own_cap HTO.out).1 HC2.out.below).mono ?_
  rintro e w3 ⟨Ab, kb, rfl, ho, hs⟩
  have HC3 := Lib.hid ((HC2.out.via hs).push HC2.out.below.size K K ho)
  have HF3 := Lib.hid ((HF2.out.on hs).on ((Below.refl w3.heap.size w3).alloc (Nat.le_refl _) (.cells #[.int .i64 K, .int .i64 K, .slice Ab (K * K) kb] 24)))
  clear ho hs HC2 HF2
  go_upto_region 13 with fail
  generalize w3.alloc _ = v3 at *
  generalize w3.heap.size = g3 at *
  clear HPB HTO
  obtain ⟨b0, b1, b2⟩ := HC3.out.cells (List.Mem.head _)
  go_wp2_with fail
  refine (invLI K Ab kb (sqL K xs ys rn cn) gF v3 HF3.out (MIn.own (HC3.out.own _ (List.Mem.head _)) HF3.out HSL.out) HDK.out HLI.out).mono ?_
  rintro e w4 ⟨Z, hzi, hzl, Ax, kx, rfl, ho, hs⟩
  have HC4 := Lib.hid ((HC3.out.stp HF3.out HG.out hs).push HC3.out.below.size K K ho)
  have HF4 := Lib.hid (hs.full.fld.on ((Below.refl w4.heap.size w4).alloc (Nat.le_refl _) (.cells #[.int .i64 K, .int .i64 K, .slice Ax (K * K) kx] 24)))
  clear b0 b1 b2
  clear ho hs HC3 HF3
  go_upto_region 14 with fail
  generalize w4.alloc _ = v4 at *
  generalize w4.heap.size = g4 at *
  have HZI := Lib.hid hzi
  have HZL := Lib.hid hzl
  clear hzi hzl
  go_wp2_with fail
  refine (HIDN.out v4).mono ?_
  rintro e w5 ⟨Ao, ko, rfl, hol, ho, hs⟩
  have HC5 := Lib.hid ((HC4.out.via hs).push HC4.out.below.size K K ho)
  have HF5 := Lib.hid ((HF4.out.on hs).on ((Below.refl w5.heap.size w5).alloc (Nat.le_refl _) (.cells #[.int .i64 K, .int .i64 K, .slice Ao (K * K) ko] 24)))
  clear ho hs HC4 HF4
  go_upto_region 15 with fail
  generalize w5.alloc _ = v5 at *
  generalize w5.heap.size = g5 at *
  clear hol
  obtain ⟨b0, b1, b2⟩ := HC5.out.cells (List.Mem.tail _ (List.Mem.tail _ (List.Mem.head _)))
  obtain ⟨x0, x1, x2⟩ := HC5.out.cells (List.Mem.tail _ (List.Mem.head _))
  go_wp2_with fail
  refine (mulM gF K K K Ab Ax (K * K) kb (K * K) kx (sqL K xs ys rn cn) Z v5 HF5.out (MIn.own (HC5.out.own _ (List.Mem.tail _ (List.Mem.tail _ (List.Mem.head _)))) HF5.out HSL.out) (MIn.own (HC5.out.own _ (List.Mem.tail _ (List.Mem.head _))) HF5.out HZL.out) rfl rfl HDK.out HDK.out HDK.out).mono ?_
  rintro e w6 ⟨Ay, ky, rfl, ho, hs⟩
  rw [Lin.mulL_one HDK.out.1 HZI.out.r] at ho
  have HC6 := Lib.hid ((HC5.out.stp HF5.out HG.out hs).push HC5.out.below.size K K ho)
  have HF6 := Lib.hid (hs.full.fld.on ((Below.refl w6.heap.size w6).alloc (Nat.le_refl _) (.cells #[.int .i64 K, .int .i64 K, .slice Ay (K * K) ky] 24)))
  clear b0 b1 b2 x0 x1 x2
  clear ho hs HC5 HF5
  go_upto_region 16 with fail
  generalize w6.alloc _ = v6 at *
  generalize w6.heap.size = g6 at *
  obtain ⟨y0, y1, y2⟩ := HC6.out.cells (List.Mem.head _)
  obtain ⟨o0, o1, o2⟩ := HC6.out.cells (List.Mem.tail _ (List.Mem.head _))
  have HSB := Lib.hid (same_own K K (HC6.out.own _ (List.Mem.head _)) (HC6.out.own _ (List.Mem.tail _ (List.Mem.head _))) rfl (tabN_length _ _ _))
  go_wp2_with fail
  refine HSB.out.mono ?_
  rintro e w7 ⟨rfl, hb⟩
  have HC7 := Lib.hid (HC6.out.via hb)
  have HF7 := Lib.hid (HF6.out.on hb)
  clear hb HSB HC6 HF6
  clear y0 y1 y2 o0 o1 o2
  obtain ⟨b0, b1, b2⟩ := HC7.out.cells (List.Mem.tail _ (List.Mem.tail _ (List.Mem.tail _ (List.Mem.head _))))
  have HRK := Lib.hid (rankLI K Ab kb (sqL K xs ys rn cn) gF w7 HF7.out (MIn.own (HC7.out.own _ (List.Mem.tail _ (List.Mem.tail _ (List.Mem.tail _ (List.Mem.head _))))) HF7.out HSL.out) HDK.out HLI.out)
  go_wp2_with fail
  refine HRK.out.mono ?_
  rintro e w8 ⟨rfl, hs⟩
  have HC8 := Lib.hid (HC7.out.stp HF7.out HG.out hs)
  clear hs HRK
  clear b0 b1 b2
  go_wp2_with fail
  refine (HS.out _).mono ?_
  rintro e wz ⟨rfl, hz⟩
  go_wp2
  go_ret
  exact ⟨rfl, HC8.out.below.via hz⟩
/-- The law MatrixSquares, of all that may come in. -/
theorem lawSquares (A1 : Option Addr) (n1 k1 : Nat) (xs : List UInt8) (A2 : Option Addr) (n2 k2 : Nat) (ys : List UInt8) (Ar : Option Addr) (m1 kr : Nat) (rs : List Int) (Ac : Option Addr) (m2 kc : Nat) (cs : List Int) (w : World) (h1 : Rd w w.heap.size A1 (xs.map bv)) (h2 : Rd w w.heap.size A2 (ys.map bv)) (h3 : Rd w w.heap.size Ar (rs.map (Value.int .i64))) (h4 : Rd w w.heap.size Ac (cs.map (Value.int .i64))) (hl1 : xs.length = n1) (hl2 : ys.length = n2) (hl3 : rs.length = m1) (hl4 : cs.length = m2) (hk1 : n1 ≤ k1) (hk2 : n2 ≤ k2) (hm1 : k1 ≤ maxLen) (hm2 : k2 ≤ maxLen) (hm3 : m1 ≤ maxLen) (hm4 : m2 ≤ maxLen) :
    Calls Try.prog 8 #[.slice A1 n1 k1, .slice A2 n2 k2, .slice Ar m1 kr, .slice Ac m2 kc] w fun e w' => e = .returned (.bool true) ∧ Below w.heap.size w w' := by
  by_cases hno : 20 < n1 ∨ 20 < n2 ∨ 10 < m1 ∨ m1 = 0 ∨ m1 ≠ m2 ∨ dsB rs n1 = false ∨ dsB cs n2 = false
  · exact lawSquaresFew A1 n1 k1 A2 n2 k2 Ar m1 kr rs Ac m2 kc cs w h3 h4 hl3 hl4 (Nat.le_trans hk1 hm1) (Nat.le_trans hk2 hm2) hm3 hm4 hno
  simp only [not_or] at hno
  obtain ⟨c1, c2, c3, c4, c5, d1, d2⟩ := hno
  obtain rfl : m1 = m2 := Classical.not_not.1 c5
  by_cases hnd : (xs ++ ys).Nodup
  · exact lawSquaresGo A1 n1 k1 xs A2 n2 k2 ys Ar m1 kr rs Ac kc cs w h1 h2 h3 h4 hl1 hl2 hl3 hl4 hk1 hk2 hm1 hm2 (by omega) (by omega) (by omega) (by omega) (Bool.of_not_eq_false d1) (Bool.of_not_eq_false d2) hnd
  · exact lawSquaresNo A1 n1 k1 xs A2 n2 k2 ys Ar m1 kr rs Ac kc cs w h1 h2 h3 h4 hl1 hl2 hl3 hl4 hk1 hk2 hm1 hm2 (by omega) (by omega) (by omega) (by omega) (Bool.of_not_eq_false d1) (Bool.of_not_eq_false d2) hnd
end Cib
