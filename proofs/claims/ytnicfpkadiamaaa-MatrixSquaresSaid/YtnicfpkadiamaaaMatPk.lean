/- Identity and Pick, the program's and the document's. -/
import Derived.Test.YtnicfpkadiamaaaMatE
set_option linter.unusedVariables false
set_option linter.unusedSimpArgs false
set_option maxRecDepth 40000
namespace Cib
open Go Go.RowKit Go.Proofs
section
variable {w wr w2 w3 : World} {go : Nat} {rows cols : Int} {F : List UInt8} {q m : Nat} {A : Option Addr} {c : Nat}
theorem TuI.keptR (h : TuI w go rows cols F q A c wr) (hg : wr.grownBy w3 (Value.slice A q c).ownBlock) {k t cs} (hk : Blk wr k t cs) (ht : t ≠ 5) : Blk w3 k t cs :=
  hk.same (Same.grown (ts := [5]) h.own hg (by decide)) (by intro hm; rw [List.mem_singleton] at hm; exact ht hm)
theorem TuI.pushR (h : TuI w go rows cols F q A c wr) {xs : List UInt8} (hx : F.take q ++ xs = F.take (q + m)) {A3 : Option Addr} {c3 : Nat}
    (ho : w3.ownsRow w.heap.size 5 1 (.slice A3 (q + m) c3) (q + m) ((F.take q).map bv ++ xs.map bv)) (hg : wr.grownBy w3 (Value.slice A q c).ownBlock) :
    TuI w go rows cols F (q + m) A3 c3 (w3.setCell ⟨go, 0 + 2, none⟩ (.slice A3 (q + m) c3)) := by
  have hB := h.keptR hg h.blk (by decide)
  have hbw : Below w.heap.size w w3 := h.below.grown hg h.below.size fun k hk => (h.own.lt k hk).1
  refine ⟨hB.set 2 _, ?_, hbw.setCell (p := ⟨go, 0 + 2, none⟩) h.hgo _, h.hgo⟩
  rw [← hx, List.map_append]
  refine ownsRow_setCell_other ho (fun he => ?_) _
  have := Ty.one (own_blockV ho he).1 hB.ty
  exact absurd this (by decide)
end
theorem matIdent1 (i j : Nat) (hi : i ≤ 255) (hj : j ≤ 255) (W : World) : Calls Try.prog 43 #[.int .i64 (i : Int), .int .i64 (j : Int)] W fun e W' => e = .returned (.int .u8 ((Lin.dl i j).toNat : Int)) ∧ Below W.heap.size W W' := by
  unfold Lin.dl
  by_cases h : i = j
  · subst h
    rw [if_pos rfl]
    go_enter Try.func43, Try.ntmps43
    go_wp2
    go_ret
    exact ⟨rfl, Below.refl _ _⟩
  · rw [if_neg h]
    have hd : decide ((i : Int) = (j : Int)) = false := decide_eq_false (by omega)
    have hd2 : ((i : Int) == (j : Int)) = false := by simpa using fun e => h (by omega)
    go_enter Try.func43, Try.ntmps43
    go_wp2
    go_ret
    exact ⟨rfl, Below.refl _ _⟩
set_option maxHeartbeats 1000000 in
theorem matIdentityNo (n : Int) (hb : wi n = false) (w : World) : Calls Try.prog 26 #[.int .i64 n] w fun e w' => e = .returned (.tuple #[.agg (mv 0 0 none 0 0), .int .i64 2]) ∧ Below w.heap.size w w' := by
  have HW := Lib.hid fun W => matWithin n W
  have HZ := Lib.hid (Blk.new w 24 (mv 0 0 none 0 0))
  have HAL := Lib.hid ((Below.refl w.heap.size w).alloc (Nat.le_refl _) (.cells (mv 0 0 none 0 0) 24))
  rw [hb] at HW
  unfold mv at HZ HAL
  go_enter Try.func26, Try.ntmps26
  go_wp2_with (go_at_call 41; refine (HW.out _).mono ?_; rintro e w' ⟨rfl, rfl⟩)
  refine bodyPost_ret (results_mat2 (g := w.heap.size) (te := 24) (cs := mv 0 0 none 0 0) (fr := (0, 0)) rfl _ _ _ rfl (by first | exact HZ.out | (have := HZ.out.row (mv 0 0 none 0 0); exact this)) Try.underlying24 rfl matInfo3) rfl ⟨rfl, by first | exact HAL.out | exact below_setRow HAL.out (Nat.le_refl _) _⟩
set_option maxHeartbeats 1000000 in
theorem matIdentity (N : Nat) (hN1 : 1 ≤ N) (hN2 : N ≤ 255) (w : World) : Calls Try.prog 26 #[.int .i64 (N : Int)] w (NewE N N (Lin.oneL N) w) := by
  have HW := Lib.hid fun W => matWithin (N : Int) W
  have HZ := Lib.hid (Blk.new w 24 (mv 0 0 none 0 0))
  have HAL := Lib.hid ((Below.refl w.heap.size w).alloc (Nat.le_refl _) (.cells (mv 0 0 none 0 0) 24))
  rw [show wi (N : Int) = true from wi_true.2 ⟨by omega, by omega⟩] at HW
  unfold NewE mv at *
  have HFI := Lib.hid fun W => matFilled 43 #[] N N hN2 hN2 Lin.dl W (fun a W => by go_simp) (fun i j hi hj W' hW => matIdent1 i j (by omega) (by omega) W')
  unfold mv at HFI
  go_enter Try.func26, Try.ntmps26
  go_wp2_with (go_at_call 41; refine (HW.out _).mono ?_; rintro e w' ⟨rfl, rfl⟩)
  refine (HFI.out _).mono ?_
  rintro e w3 ⟨A, c, rfl, ho, hb3⟩
  have hr := HZ.out.below hb3 HZ.out.lt
  have HO := Lib.hid ho
  have HB := Lib.hid (HAL.out.via hb3)
  clear ho hb3
  go_wp2_with (refine wpList_store_row rfl 24 (.tmp 2) (.tmp 10) rfl w.heap.size (mv N N A (N * N) c) rfl rfl 24 (mv 0 0 none 0 0) hr matInfo3 rfl (mv_one _ _ _ _ _) ?_)
  refine bodyPost_ret (results_mat2 (g := w.heap.size) (te := 24) (cs := mv N N A (N * N) c) (fr := (0, 0)) rfl _ _ _ rfl (hr.row _) Try.underlying24 rfl matInfo3) rfl ?_
  refine ⟨A, c, rfl, tabN_length _ _ _, own_setRow (own_lowerS HO.out (by simp)) ?_ _, below_setRow HB.out (Nat.le_refl _) _⟩
  intro he
  have := (HO.out.lt _ he).1
  simp at this
  omega
set_option maxHeartbeats 1000000 in
theorem refIdentityNo (n : Int) (hn : wi n = false) (w : World) : Calls Try.prog 17 #[.int .i64 n] w fun e w' => e = .returned (.tuple #[.agg (mv 0 0 none 0 0), .int .i64 2]) ∧ Below w.heap.size w w' := by
  have HZ := Lib.hid (Blk.new w 24 (mv 0 0 none 0 0))
  have HAL := Lib.hid ((Below.refl w.heap.size w).alloc (Nat.le_refl _) (.cells (mv 0 0 none 0 0) 24))
  have hn' : n < 1 ∨ 255 < n := by
    unfold wi at hn
    have := of_decide_eq_false hn
    omega
  unfold mv at HZ HAL
  by_cases h1 : n < 1
  · go_enter Try.func17, Try.ntmps17
    go_wp2
    refine bodyPost_ret (results_mat2 (g := w.heap.size) (te := 24) (cs := mv 0 0 none 0 0) (fr := (0, 0)) rfl _ _ _ rfl (by first | exact HZ.out | (have := HZ.out.row (mv 0 0 none 0 0); exact this)) Try.underlying24 rfl matInfo3) rfl ⟨rfl, by first | exact HAL.out | exact below_setRow HAL.out (Nat.le_refl _) _⟩
  · have h2 : 255 < n := by omega
    go_enter Try.func17, Try.ntmps17
    go_wp2
    refine bodyPost_ret (results_mat2 (g := w.heap.size) (te := 24) (cs := mv 0 0 none 0 0) (fr := (0, 0)) rfl _ _ _ rfl (by first | exact HZ.out | (have := HZ.out.row (mv 0 0 none 0 0); exact this)) Try.underlying24 rfl matInfo3) rfl ⟨rfl, by first | exact HAL.out | exact below_setRow HAL.out (Nat.le_refl _) _⟩
end Cib
namespace Lin
theorem pickL_length (c : Nat) (A : List UInt8) (is : List Nat) : (pickL c A is).length = is.length * c := Cib.tabN_length _ _ _
theorem pick_row {r c : Nat} {A : List UInt8} (hA : A.length = r * c) {is : List Nat} {p : Nat} (hp : p < is.length) (hi : is[p] < r) : (pickL c A is).take (p * c) ++ rowOf c A is[p] = (pickL c A is).take (p * c + c) := by
  have hle : p * c + c ≤ is.length * c := by
    rw [← Nat.succ_mul]
    exact Nat.mul_le_mul_right c hp
  have ht : ∀ q, q ≤ is.length * c → (pickL c A is).take q = Cib.tabN c (fun i j => fl c A (is.getD i 0) j) q := fun q hq => by
    unfold pickL Cib.tabN
    rw [← List.map_take, List.take_range, Nat.min_eq_left hq]
  rw [ht _ (by omega), ht _ hle]
  have hr : rowOf c A is[p] = (List.range c).map (fun j => fl c A (is.getD p 0) j) := by
    apply List.ext_getElem
    · rw [rowOf_length hA hi]; simp
    · intro q h1 h2
      rw [List.getElem_map, List.getElem_range]
      have hq : q < c := by rw [rowOf_length hA hi] at h1; exact h1
      rw [List.getD_eq_getElem?_getD, List.getElem?_eq_getElem hp, Option.getD_some, ← rowOf_get hq, List.getD_eq_getElem?_getD, List.getElem?_eq_getElem h1]
      rfl
  rw [hr, tabN_row c (fun i j => fl c A (is.getD i 0) j) p, Nat.succ_mul]
end Lin
namespace Cib
open Go Go.RowKit Go.Proofs
theorem rd_i64 {w : World} {B : Nat} {A : Option Addr} {L : List Int} (h : Rd w B A (L.map (Value.int .i64))) {k : Nat} (hk : k < L.length) : ∃ ad, A = some ad ∧ ad.block < B ∧ w.cell? (ad.add k) = some (.int .i64 L[k]) := by
  obtain ⟨ad, e, hb, hc⟩ := h (by intro e; simp at e; subst e; simp at hk)
  have := hc k (by simpa using hk)
  rw [List.getElem_map] at this
  exact ⟨ad, e, hb, this⟩
/-- May these rows be picked? -/
def pkB (r c : Int) (n : Nat) (xs : List Int) : Bool := mr r c n && wi xs.length && xs.all fun x => decide (0 ≤ x ∧ x < r)
theorem pkB_true {r c : Int} {n : Nat} {xs : List Int} : pkB r c n xs = true ↔ mr r c n = true ∧ wi xs.length = true ∧ ∀ x ∈ xs, 0 ≤ x ∧ x < r := by
  simp [pkB, and_assoc]
theorem pkB_false {r c : Int} {n : Nat} {xs : List Int} (h : ¬ (mr r c n = true ∧ wi xs.length = true ∧ ∀ x ∈ xs, 0 ≤ x ∧ x < r)) : pkB r c n xs = false := by
  rw [← pkB_true] at h
  simpa using h
/-- What Pick answers. -/
def PkR (r c : Int) (n : Nat) (bs : List UInt8) (xs : List Int) (w : World) (e : Ending) (w' : World) : Prop :=
  (pkB r c n xs = true ∧ ∃ A k, e = .returned (.tuple #[.agg (mv xs.length c A (xs.length * c.toNat) k), .int .i64 0]) ∧ w'.ownsRow w.heap.size 5 1 (.slice A (xs.length * c.toNat) k) (xs.length * c.toNat) ((Lin.pickL c.toNat bs (xs.map Int.toNat)).map bv) ∧ Below w.heap.size w w') ∨
    (pkB r c n xs = false ∧ e = .returned (.tuple #[.agg (mv 0 0 none 0 0), .int .i64 2]) ∧ Below w.heap.size w w')
theorem matPickCell (g2 g3 : Nat) (r c : Nat) (A Ar : Option Addr) (n k m kr : Nat) (bs : List UInt8) (xs : List Int) (i j R : Nat) (W : World) (B : Nat) (hB : B ≤ W.heap.size)
    (h2 : Blk W g2 24 (mv r c A n k)) (h3 : Blk W g3 41 #[.slice Ar m kr]) (hr : Rd W B A (bs.map bv)) (hx : Rd W B Ar (xs.map (Value.int .i64))) (hl : bs.length = r * c) (hn : n = r * c) (hk : n ≤ k) (hm : xs.length = m) (hi : i < m) (hj : j < c) (hR : xs[i]? = some (R : Int)) (hRr : R < r) (hr2 : r ≤ 255) (hc2 : c ≤ 255) (hm2 : m ≤ 300) :
    Calls Try.prog 42 #[.int .i64 (i : Int), .int .i64 (j : Int), .pointer (some ⟨g2, 0, none⟩), .pointer (some ⟨g3, 0, none⟩)] W fun e W' => e = .returned (.int .u8 ((Lin.fl c bs R j).toNat : Int)) ∧ Below W.heap.size W W' := by
  have hi' : i < xs.length := by omega
  have hxi : xs[i] = (R : Int) := by
    rw [List.getElem?_eq_getElem hi'] at hR
    exact Option.some.inj hR
  obtain ⟨ad, rfl, hab, hcx⟩ := rd_i64 hx hi'
  rw [hxi] at hcx
  have hlr := Lin.rowOf_length hl hRr
  have hq : j < (Lin.rowOf c bs R).length := by rw [hlr]; exact hj
  have hle : (R + 1) * c ≤ n := by rw [hn]; exact Nat.mul_le_mul_right c hRr
  have HRW := Lib.hid fun W => matRow A n k c R hc2 hle (by omega) hk W
  obtain ⟨ad2, he2, _, hc⟩ := (cut_row hr hl hRr).byte hq
  have hfl : (Lin.rowOf c bs R)[j] = Lin.fl c bs R j := by
    rw [← Lin.rowOf_get hj]
    exact (getD_0 hq).symm
  rw [hfl] at hc
  generalize Lin.fl c bs R j = x at *
  rw [he2] at HRW
  have h21 := h2.cell 1
  have h22 := h2.cell 2
  have h30 := h3.cell 0
  unfold mv at h21 h22
  simp only [List.getElem?_toArray, List.getElem?_cons_zero, List.getElem?_cons_succ] at h21 h22 h30
  have l2 := h2.lt
  have l3 := h3.lt
  have l4 := block_lt_of_cell hcx
  have l5 := block_lt_of_cell hc
  clear h2 h3 hr hx hl hn hR hxi hq hfl he2 hlr hle
  go_enter Try.func42, Try.ntmps42
  go_wp2
  refine wp_region_held_drew (S := (fun wQq => Below (World.heap (W.drew)).size (W.drew) wQq)) (by kernel_rfl) (by exact Below.refl _ _) (fun _ => ?_)
  refine wpAnyH_take (i := 0) (v := ?_) rfl (by kernel_rfl) (by kernel_rfl) (by kernel_rfl) (fun _ _ _ h => h) (Or.inl ⟨by rfl, ?_⟩) (Below.refl _ _) ?_
  rotate_left
  · intro wS hSw
    go_simp
    try with_reducible rfl
  try simp only [List.getElem_toArray, List.getElem_cons_zero, List.getElem_cons_succ, Act.put, List.setIfInBounds_toArray, List.set_cons_zero, List.set_cons_succ]
  refine wpAnyH_take (i := 2) (v := ?_) rfl (by kernel_rfl) (by kernel_rfl) (by kernel_rfl) (fun _ _ _ h => h) (Or.inl ⟨by rfl, ?_⟩) (Below.refl _ _) ?_
  rotate_left
  · intro wS hSw
    go_simp
    try with_reducible rfl
  try simp only [List.getElem_toArray, List.getElem_cons_zero, List.getElem_cons_succ, Act.put, List.setIfInBounds_toArray, List.set_cons_zero, List.set_cons_succ]
  refine wpAnyH_take (i := 5) (v := ?_) rfl (by kernel_rfl) (by kernel_rfl) (by kernel_rfl) (fun _ _ _ h => h) (Or.inl ⟨by rfl, ?_⟩) (Below.refl _ _) ?_
  rotate_left
  · intro wS hSw
    go_simp
    try with_reducible rfl
  try simp only [List.getElem_toArray, List.getElem_cons_zero, List.getElem_cons_succ, Act.put, List.setIfInBounds_toArray, List.set_cons_zero, List.set_cons_succ]
  refine wpAnyH_take (i := 9) (v := ?_) rfl (by kernel_rfl) (by kernel_rfl) (by kernel_rfl) (fun _ _ _ h => h) (Or.inl ⟨by rfl, ?_⟩) (Below.refl _ _) ?_
  rotate_left
  · intro wS hSw
    go_simp
    try with_reducible rfl
  try simp only [List.getElem_toArray, List.getElem_cons_zero, List.getElem_cons_succ, Act.put, List.setIfInBounds_toArray, List.set_cons_zero, List.set_cons_succ]
  refine wpAnyH_take (i := 1) (v := ?_) rfl (by kernel_rfl) (by kernel_rfl) (by kernel_rfl) (fun _ _ _ h => h) (Or.inl ⟨by rfl, ?_⟩) (Below.refl _ _) ?_
  rotate_left
  · intro wS hSw
    have hcv := ((hSw.cell (p := ⟨g2, 2, none⟩) (by exact l2)).trans h22)
    go_simp
    try with_reducible rfl
  try simp only [List.getElem_toArray, List.getElem_cons_zero, List.getElem_cons_succ, Act.put, List.setIfInBounds_toArray, List.set_cons_zero, List.set_cons_succ]
  refine wpAnyH_take (i := 3) (v := ?_) rfl (by kernel_rfl) (by kernel_rfl) (by kernel_rfl) (fun _ _ _ h => h) (Or.inl ⟨by rfl, ?_⟩) (Below.refl _ _) ?_
  rotate_left
  · intro wS hSw
    have hcv := ((hSw.cell (p := ⟨g2, 1, none⟩) (by exact l2)).trans h21)
    go_simp
    try with_reducible rfl
  try simp only [List.getElem_toArray, List.getElem_cons_zero, List.getElem_cons_succ, Act.put, List.setIfInBounds_toArray, List.set_cons_zero, List.set_cons_succ]
  refine wpAnyH_take (i := 4) (v := ?_) rfl (by kernel_rfl) (by kernel_rfl) (by kernel_rfl) (fun _ _ _ h => h) (Or.inl ⟨by rfl, ?_⟩) (Below.refl _ _) ?_
  rotate_left
  · intro wS hSw
    have hcv := ((hSw.cell (p := ⟨g3, 0, none⟩) (by exact l3)).trans h30)
    go_simp
    try with_reducible rfl
  try simp only [List.getElem_toArray, List.getElem_cons_zero, List.getElem_cons_succ, Act.put, List.setIfInBounds_toArray, List.set_cons_zero, List.set_cons_succ]
  refine wpAnyH_take (i := 6) (v := ?_) rfl (by kernel_rfl) (by kernel_rfl) (by kernel_rfl) (fun _ _ _ h => h) (Or.inl ⟨by rfl, ?_⟩) (Below.refl _ _) ?_
  rotate_left
  · intro wS hSw
    go_simp
    try with_reducible rfl
  try simp only [List.getElem_toArray, List.getElem_cons_zero, List.getElem_cons_succ, Act.put, List.setIfInBounds_toArray, List.set_cons_zero, List.set_cons_succ]
  refine wpAnyH_take (i := 7) (v := ?_) rfl (by kernel_rfl) (by kernel_rfl) (by kernel_rfl) (fun _ _ _ h => h) (Or.inl ⟨by rfl, ?_⟩) (Below.refl _ _) ?_
  rotate_left
  · intro wS hSw
    have hcv := ((hSw.cell (p := ad.add i) (by exact l4)).trans hcx)
    go_simp
    try with_reducible rfl
  try simp only [List.getElem_toArray, List.getElem_cons_zero, List.getElem_cons_succ, Act.put, List.setIfInBounds_toArray, List.set_cons_zero, List.set_cons_succ]
  refine wpAnyH_ready (rs := [8]) (by kernel_rfl) (by simp) ?_
  refine AllReadyH.cons rfl (fun K hK => ?_) AllReadyH.nil
  go_simp
  refine (HRW.out _).mono ?_
  rintro e w2 ⟨rfl, hz⟩
  subst w2
  refine hK.out _ _ (Below.refl _ _) (fun _ => ?_)
  clear hK K
  try simp only [List.getElem_toArray, List.getElem_cons_zero, List.getElem_cons_succ, Act.put, List.setIfInBounds_toArray, List.set_cons_zero, List.set_cons_succ]
  refine wpAnyH_take (i := 10) (v := ?_) rfl (by kernel_rfl) (by kernel_rfl) (by kernel_rfl) (fun _ _ _ h => h) (Or.inl ⟨by rfl, ?_⟩) (Below.refl _ _) ?_
  rotate_left
  · intro wS hSw
    go_simp
    try with_reducible rfl
  try simp only [List.getElem_toArray, List.getElem_cons_zero, List.getElem_cons_succ, Act.put, List.setIfInBounds_toArray, List.set_cons_zero, List.set_cons_succ]
  refine wpAnyH_take (i := 11) (v := ?_) rfl (by kernel_rfl) (by kernel_rfl) (by kernel_rfl) (fun _ _ _ h => h) (Or.inl ⟨by rfl, ?_⟩) (Below.refl _ _) ?_
  rotate_left
  · intro wS hSw
    have hcv := ((hSw.cell (p := ad2.add j) (by exact l5)).trans hc)
    go_simp
    try with_reducible rfl
  try simp only [List.getElem_toArray, List.getElem_cons_zero, List.getElem_cons_succ, Act.put, List.setIfInBounds_toArray, List.set_cons_zero, List.set_cons_succ]
  refine wpAnyH_take (i := 12) (v := ?_) rfl (by kernel_rfl) (by kernel_rfl) (by kernel_rfl) (fun _ _ _ h => h) (Or.inl ⟨by rfl, ?_⟩) (Below.refl _ _) ?_
  rotate_left
  · intro wS hSw
    go_simp
    try with_reducible rfl
  try simp only [List.getElem_toArray, List.getElem_cons_zero, List.getElem_cons_succ, Act.put, List.setIfInBounds_toArray, List.set_cons_zero, List.set_cons_succ]
  refine wpAnyH_done (by kernel_rfl) ?_ _
  go_wp2
  go_ret
  exact ⟨rfl, below_drewN (Below.refl W.heap.size W) 1⟩
/-- Pick's boxes. -/
structure PkW (z : Nat) (M R : Array Value) (wa : World) : Prop where
  m : Blk wa z 24 M
  n : Blk wa (z + 1) 41 R
  z : Blk wa (z + 1 + 1) 24 (mv 0 0 none 0 0)
theorem PkW.new (w : World) (M R : Array Value) : PkW w.heap.size M R (((w.alloc (.cells M 24)).alloc (.cells R 41)).alloc (.cells (mv 0 0 none 0 0) 24)) :=
  ⟨((Blk.new w _ _).alloc _).alloc _, by have := (Blk.new (w.alloc (.cells M 24)) 41 R).alloc (.cells (mv 0 0 none 0 0) 24); simpa using this, by have := Blk.new ((w.alloc (.cells M 24)).alloc (.cells R 41)) 24 (mv 0 0 none 0 0); simpa using this⟩
theorem PkW.below {z : Nat} {M R : Array Value} {wa wb : World} (h : PkW z M R wa) (hb : Below wa.heap.size wa wb) : PkW z M R wb := ⟨h.m.below hb h.m.lt, h.n.below hb h.n.lt, h.z.below hb h.z.lt⟩
theorem pk_new (w : World) (M R : Array Value) : Below w.heap.size w (((w.alloc (.cells M 24)).alloc (.cells R 41)).alloc (.cells (mv 0 0 none 0 0) 24)) := (((Below.refl _ _).alloc (Nat.le_refl _) _).alloc (by simp) _).alloc (by simp; omega) _
set_option maxHeartbeats 2000000 in
theorem matPick (r c : Int) (A : Option Addr) (n k : Nat) (bs : List UInt8) (Ar : Option Addr) (m kr : Nat) (xs : List Int) (w : World) (h1 : Rd w w.heap.size A (bs.map bv)) (h2 : Rd w w.heap.size Ar (xs.map (Value.int .i64))) (hl1 : bs.length = n) (hl2 : xs.length = m) (hk : n ≤ k) (hn : n ≤ 140737488355328) (hm : m ≤ 300) :
    Calls Try.prog 21 #[.agg (mv r c A n k), .slice Ar m kr] w (PkR r c n bs xs w) := by
  have HIW := Lib.hid (PkW.new w (mv r c A n k) #[.slice Ar m kr])
  have HZ := Lib.hid (pk_new w (mv r c A n k) #[.slice Ar m kr])
  have HR1 := Lib.hid fun W => matRight r c A n k hn W
  have HWI := Lib.hid fun W => matWithin (m : Int) W
  have HL1 := Lib.hid hl1
  have HL2 := Lib.hid hl2
  have HRD := Lib.hid h1
  have HXD := Lib.hid h2
  have HKK := Lib.hid hk
  obtain ⟨b, hb⟩ : ∃ b, mr r c n = b := ⟨_, rfl⟩
  obtain ⟨b2, hb2⟩ : ∃ b, wi (m : Int) = b := ⟨_, rfl⟩
  have HB := Lib.hid hb
  have HB2 := Lib.hid hb2
  rw [hb] at HR1
  rw [hb2] at HWI
  clear h1 h2 hl1 hl2 hb hb2
  unfold mv at HR1 HZ HIW ⊢
  go_enter Try.func21, Try.ntmps21
  go_wp2_with fail
  refine (HR1.out _).mono ?_
  rintro e w2 ⟨rfl, hb2⟩
  have HI2 := Lib.hid (HIW.out.below hb2)
  have HS2 := Lib.hid (HZ.out.via hb2)
  clear hb2 HIW HZ
  have hz2 := HI2.out.z
  have HFIN := Lib.hid fun (W : World) (e : W = w2.setRow (w.heap.size + 1 + 1) (mv 0 0 none 0 0)) => (⟨by subst e; exact hz2.row _, by subst e; exact below_setRow HS2.out (by omega) _⟩ : Blk W (w.heap.size + 1 + 1) 24 (mv 0 0 none 0 0) ∧ Below w.heap.size w W)
  have n0 := HI2.out.n.cell 0
  have m0 := HI2.out.m.cell 0
  have m1 := HI2.out.m.cell 1
  simp only [List.getElem?_toArray, List.getElem?_cons_zero, List.getElem?_cons_succ] at n0 m0 m1
  cases b
  · have HNO : Hid (pkB r c n xs = false) := Lib.hid (pkB_false fun e => by rw [HB.out] at e; exact absurd e.1 (by decide))
    go_wp2_with (refine wpList_store_row rfl 24 (.tmp 4) (.tmp 17) rfl (w.heap.size + 1 + 1) (mv 0 0 none 0 0) rfl rfl 24 (mv 0 0 none 0 0) hz2 matInfo3 rfl (mv_one _ _ _ _ _) ?_)
    refine bodyPost_ret (results_mat2 (g := w.heap.size + 1 + 1) (te := 24) (cs := mv 0 0 none 0 0) (fr := (0, 0)) rfl _ _ _ rfl (HFIN.out _ rfl).1 Try.underlying24 rfl matInfo3) rfl (Or.inr ⟨HNO.out, rfl, (HFIN.out _ rfl).2⟩)
  cases b2
  · have HNO : Hid (pkB r c n xs = false) := Lib.hid (pkB_false fun e => by rw [HL2.out, HB2.out] at e; exact absurd e.2.1 (by decide))
    go_wp2_with (first | (go_at_call 41; refine (HWI.out _).mono ?_; rintro e w' ⟨rfl, rfl⟩) | refine wpList_store_row rfl 24 (.tmp 4) (.tmp 17) rfl (w.heap.size + 1 + 1) (mv 0 0 none 0 0) rfl rfl 24 (mv 0 0 none 0 0) hz2 matInfo3 rfl (mv_one _ _ _ _ _) ?_)
    refine bodyPost_ret (results_mat2 (g := w.heap.size + 1 + 1) (te := 24) (cs := mv 0 0 none 0 0) (fr := (0, 0)) rfl _ _ _ rfl (HFIN.out _ rfl).1 Try.underlying24 rfl matInfo3) rfl (Or.inr ⟨HNO.out, rfl, (HFIN.out _ rfl).2⟩)
  obtain ⟨⟨hr1, hr2⟩, ⟨hc1, hc2⟩, hnn⟩ := mr_true.1 HB.out
  obtain ⟨hm1, hm2⟩ := wi_true.1 HB2.out
  obtain ⟨R, rfl⟩ := Int.eq_ofNat_of_zero_le (show 0 ≤ r by omega)
  obtain ⟨C, rfl⟩ := Int.eq_ofNat_of_zero_le (show 0 ≤ c by omega)
  have HNN : Hid (n = R * C) := Lib.hid (by exact_mod_cast hnn)
  clear hnn
  go_wp2_with (go_at_call 41; refine (HWI.out _).mono ?_; rintro e w' ⟨rfl, rfl⟩)
  go_loopw [7, 20] (fun _ i wr => ∃ p : Nat, i = .int .i64 p ∧ p ≤ m ∧ wr = w' ∧ Hid (∀ x ∈ xs.take p, 0 ≤ x ∧ x < (R : Int))) (fun _ i _ => m - (intOf i).toNat)
  case atStart => exact ⟨0, rfl, Nat.zero_le _, rfl, Lib.hid (by intro x hx; simp at hx)⟩
  case round =>
    obtain ⟨p, rfl, hp, rfl, hA⟩ := hrel
    by_cases hlt : p < m
    · have hpl : p < xs.length := by rw [HL2.out]; exact hlt
      obtain ⟨ad, rfl, hab, hcx⟩ := rd_i64 (HXD.out.below HS2.out) hpl
      have HTK := Lib.hid (List.take_succ_eq_append_getElem hpl)
      have HME := Lib.hid (List.getElem_mem hpl)
      generalize xs[p] = x at *
      clear hpl
      by_cases hx : 0 ≤ x ∧ x < (R : Int)
      · obtain ⟨hx0, hx1⟩ := hx
        have HA2 : Hid (∀ x ∈ xs.take (p + 1), 0 ≤ x ∧ x < (R : Int)) := Lib.hid (by
          rw [HTK.out]
          intro y hy
          rcases List.mem_append.1 hy with hy | hy
          · exact hA.out y hy
          · rw [List.mem_singleton] at hy
            subst hy
            exact ⟨hx0, hx1⟩)
        have d1 : decide (x < 0) = false := decide_eq_false (by omega)
        have d2 : decide ((R : Int) ≤ x) = false := decide_eq_false (by omega)
        clear hA
        go_wp2
        go_roundw
        case rel => exact ⟨p + 1, by go_num, hlt, by first | rfl | trivial, HA2⟩
        case measure => simp [intOf]; omega
      · have HNO : Hid (pkB R C n xs = false) := Lib.hid (pkB_false fun e => hx (e.2.2 x HME.out))
        by_cases hx0 : x < 0
        · clear hx
          go_wp2_with (refine wpList_store_row rfl 24 (.tmp 4) (.tmp 32) rfl (w.heap.size + 1 + 1) (mv 0 0 none 0 0) rfl rfl 24 (mv 0 0 none 0 0) hz2 matInfo3 rfl (mv_one _ _ _ _ _) ?_)
          refine bodyPost_ret (results_mat2 (g := w.heap.size + 1 + 1) (te := 24) (cs := mv 0 0 none 0 0) (fr := (0, 0)) rfl _ _ _ rfl (HFIN.out _ rfl).1 Try.underlying24 rfl matInfo3) rfl (Or.inr ⟨HNO.out, rfl, (HFIN.out _ rfl).2⟩)
        · have hx1 : (R : Int) ≤ x := by omega
          have d1 : decide (x < 0) = false := decide_eq_false (by omega)
          clear hx
          go_wp2_with (refine wpList_store_row rfl 24 (.tmp 4) (.tmp 32) rfl (w.heap.size + 1 + 1) (mv 0 0 none 0 0) rfl rfl 24 (mv 0 0 none 0 0) hz2 matInfo3 rfl (mv_one _ _ _ _ _) ?_)
          refine bodyPost_ret (results_mat2 (g := w.heap.size + 1 + 1) (te := 24) (cs := mv 0 0 none 0 0) (fr := (0, 0)) rfl _ _ _ rfl (HFIN.out _ rfl).1 Try.underlying24 rfl matInfo3) rfl (Or.inr ⟨HNO.out, rfl, (HFIN.out _ rfl).2⟩)
    · obtain rfl : p = m := by omega
      have HAL : Hid (∀ x ∈ xs, 0 ≤ x ∧ x < (R : Int)) := Lib.hid (by
        have := hA.out
        rwa [List.take_of_length_le (by rw [HL2.out]; exact Nat.le_refl _)] at this)
      have HYE : Hid (pkB R C n xs = true) := Lib.hid (pkB_true.2 ⟨HB.out, by rw [HL2.out]; exact HB2.out, HAL.out⟩)
      clear hA
      have HFI := Lib.hid (matFilled 42 #[.pointer (some ⟨w.heap.size, 0, none⟩), .pointer (some ⟨w.heap.size + 1, 0, none⟩)] p C (by omega) (by omega) (fun i j => Lin.fl C bs ((xs.map Int.toNat).getD i 0) j) wr (fun a W => by go_simp) (fun i j hi hj W hW => by
        have hi' : i < xs.length := by rw [HL2.out]; exact hi
        obtain ⟨y0, y1⟩ := HAL.out _ (List.getElem_mem hi')
        have hy : xs[i]? = some ((xs[i].toNat : Nat) : Int) := by rw [List.getElem?_eq_getElem hi', Int.toNat_of_nonneg y0]
        have hg : (xs.map Int.toNat).getD i 0 = xs[i].toNat := by simp [List.getD, hi']
        rw [hg]
        exact matPickCell w.heap.size (w.heap.size + 1) R C A Ar n k p kr bs xs i j xs[i].toNat W w.heap.size (Nat.le_trans HS2.out.size hW.size) (HI2.out.m.below hW HI2.out.m.lt) (HI2.out.n.below hW HI2.out.n.lt) (HRD.out.below (HS2.out.via hW)) (HXD.out.below (HS2.out.via hW)) (HL1.out.trans HNN.out) HNN.out HKK.out HL2.out hi hj hy (by omega) (by omega) (by omega) (by omega)))
      have hle : w.heap.size ≤ wr.heap.size := HS2.out.size
      go_wp2_with fail
      refine HFI.out.mono ?_
      rintro e w3 ⟨A3, c3, rfl, ho, hb3⟩
      have hr6 := (HI2.out.below hb3).z
      have HO := Lib.hid ho
      have HB3 := Lib.hid (HS2.out.via hb3)
      have HSZ := Lib.hid HI2.out.z.lt
      clear ho hb3
      go_wp2_with (refine wpList_store_row rfl 24 (.tmp 4) (.tmp 39) rfl (w.heap.size + 1 + 1) (mv p C A3 (p * C) c3) rfl rfl 24 (mv 0 0 none 0 0) hr6 matInfo3 rfl (mv_one _ _ _ _ _) ?_)
      refine bodyPost_ret (results_mat2 (g := w.heap.size + 1 + 1) (te := 24) (cs := mv p C A3 (p * C) c3) (fr := (0, 0)) rfl _ _ _ rfl (hr6.row _) Try.underlying24 rfl matInfo3) rfl (Or.inl ⟨HYE.out, A3, c3, by rw [HL2.out, Int.toNat_natCast]; rfl, ?_, below_setRow HB3.out (by omega) _⟩)
      rw [HL2.out, Int.toNat_natCast]
      have e : tabN C (fun i j => Lin.fl C bs ((xs.map Int.toNat).getD i 0) j) (p * C) = Lin.pickL C bs (xs.map Int.toNat) := by
        unfold Lin.pickL
        rw [List.length_map, HL2.out]
      rw [← e]
      refine own_setRow (own_lowerS HO.out hle) ?_ _
      intro he
      have h1 := (HO.out.lt _ he).1
      have h2 := HSZ.out
      omega
end Cib
namespace Cib
open Go Go.RowKit Go.Proofs
/-- Pick under way. -/
structure PrI (w : World) (go : Nat) (rows cols : Int) (F : List UInt8) (M : Array Value) (q : Nat) (A : Option Addr) (c : Nat) (wr : World) : Prop where
  tu : TuI w go rows cols F q A c wr
  m : Blk wr w.heap.size 24 M
  z : Blk wr (w.heap.size + 1) 24 (mv 0 0 none 0 0)
theorem PrI.via {w wr w2 : World} {go : Nat} {ra cb : Int} {F : List UInt8} {M : Array Value} {q : Nat} {A : Option Addr} {c : Nat} (h : PrI w go ra cb F M q A c wr) (hb : Below wr.heap.size wr w2) : PrI w go ra cb F M q A c w2 :=
  ⟨h.tu.via hb, h.m.below hb h.m.lt, h.z.below hb h.z.lt⟩
theorem PrI.fin {w wr : World} {go : Nat} {ra cb : Int} {F : List UInt8} {M : Array Value} {q : Nat} {A : Option Addr} {c : Nat} (h : PrI w go ra cb F M q A c wr) : Blk (wr.setRow (w.heap.size + 1) (mv 0 0 none 0 0)) (w.heap.size + 1) 24 (mv 0 0 none 0 0) ∧ Below w.heap.size w (wr.setRow (w.heap.size + 1) (mv 0 0 none 0 0)) :=
  ⟨h.z.row _, below_setRow h.tu.below (by omega) _⟩
theorem PrI.pushN {w wr w3 : World} {go : Nat} {ra cb : Int} {F : List UInt8} {M : Array Value} {q m : Nat} {A : Option Addr} {c : Nat} (h : PrI w go ra cb F M q A c wr) (hgz : w.heap.size + 1 < go) {xs : List UInt8} (hx : F.take q ++ xs = F.take (q + m)) {A3 : Option Addr} {c3 : Nat}
    (ho : w3.ownsRow w.heap.size 5 1 (.slice A3 (q + m) c3) (q + m) ((F.take q).map bv ++ xs.map bv)) (hg : wr.grownBy w3 (Value.slice A q c).ownBlock) :
    PrI w go ra cb F M (q + m) A3 c3 (w3.setCell ⟨go, 0 + 2, none⟩ (.slice A3 (q + m) c3)) :=
  ⟨h.tu.pushR hx ho hg, (h.tu.keptR hg h.m (by decide)).far (p := ⟨go, 0 + 2, none⟩) (by show w.heap.size ≠ go; omega) _, (h.tu.keptR hg h.z (by decide)).far (p := ⟨go, 0 + 2, none⟩) (by show w.heap.size + 1 ≠ go; omega) _⟩
set_option maxHeartbeats 2000000 in
theorem refPick (r c : Int) (A : Option Addr) (n k : Nat) (bs : List UInt8) (Ar : Option Addr) (m kr : Nat) (xs : List Int) (w : World) (h1 : Rd w w.heap.size A (bs.map bv)) (h2 : Rd w w.heap.size Ar (xs.map (Value.int .i64))) (hl1 : bs.length = n) (hl2 : xs.length = m) (hk : n ≤ k) (hm : m ≤ 300) :
    Calls Try.prog 22 #[.agg (mv r c A n k), .slice Ar m kr] w (PkR r c n bs xs w) := by
  have HR1 := Lib.hid fun W => refRight4 r c A n k W
  have HL1 := Lib.hid hl1
  have HL2 := Lib.hid hl2
  have HRD := Lib.hid h1
  have HXD := Lib.hid h2
  have HKK := Lib.hid hk
  obtain ⟨b, hb⟩ : ∃ b, mr r c n = b := ⟨_, rfl⟩
  have HB := Lib.hid hb
  rw [hb] at HR1
  have HM0 : Hid (Blk ((w.alloc (.cells (mv r c A n k) 24)).alloc (.cells (mv 0 0 none 0 0) 24)) w.heap.size 24 (mv r c A n k)) := Lib.hid ((Blk.new w _ _).alloc _)
  have HZ0 : Hid (Blk ((w.alloc (.cells (mv r c A n k) 24)).alloc (.cells (mv 0 0 none 0 0) 24)) (w.heap.size + 1) 24 (mv 0 0 none 0 0)) := Lib.hid (by
    have := Blk.new (w.alloc (.cells (mv r c A n k) 24)) 24 (mv 0 0 none 0 0)
    simpa using this)
  have HA0 : Hid (Below w.heap.size w ((w.alloc (.cells (mv r c A n k) 24)).alloc (.cells (mv 0 0 none 0 0) 24))) := Lib.hid (((Below.refl _ _).alloc (Nat.le_refl _) _).alloc (by simp) _)
  clear h1 h2 hl1 hl2 hb
  unfold mv at HR1 HM0 HZ0 HA0 ⊢
  go_enter Try.func22, Try.ntmps22
  go_wp2_with fail
  refine (HR1.out _).mono ?_
  rintro e w2 ⟨rfl, hb2⟩
  have HM2 := Lib.hid (HM0.out.below hb2 HM0.out.lt)
  have HZ2 := Lib.hid (HZ0.out.below hb2 HZ0.out.lt)
  have HS2 := Lib.hid (HA0.out.via hb2)
  clear hb2 HM0 HZ0 HA0
  have hz2 := HZ2.out
  have HFIN := Lib.hid fun (W : World) (e : W = w2.setRow (w.heap.size + 1) (mv 0 0 none 0 0)) => (⟨by subst e; exact hz2.row _, by subst e; exact below_setRow HS2.out (by omega) _⟩ : Blk W (w.heap.size + 1) 24 (mv 0 0 none 0 0) ∧ Below w.heap.size w W)
  have m1 := HM2.out.cell 1
  simp only [List.getElem?_toArray, List.getElem?_cons_zero, List.getElem?_cons_succ] at m1
  cases b
  · have HNO : Hid (pkB r c n xs = false) := Lib.hid (pkB_false fun e => by rw [HB.out] at e; exact absurd e.1 (by decide))
    go_wp2_with (refine wpList_store_row rfl 24 (.tmp 4) (.tmp 21) rfl (w.heap.size + 1) (mv 0 0 none 0 0) rfl rfl 24 (mv 0 0 none 0 0) hz2 matInfo3 rfl (mv_one _ _ _ _ _) ?_)
    refine bodyPost_ret (results_mat2 (g := w.heap.size + 1) (te := 24) (cs := mv 0 0 none 0 0) (fr := (0, 0)) rfl _ _ _ rfl (HFIN.out _ rfl).1 Try.underlying24 rfl matInfo3) rfl (Or.inr ⟨HNO.out, rfl, (HFIN.out _ rfl).2⟩)
  by_cases hm0 : m < 1
  · have HNO : Hid (pkB r c n xs = false) := Lib.hid (pkB_false fun e => by have := (wi_true.1 e.2.1).1; rw [HL2.out] at this; omega)
    go_wp2_with (refine wpList_store_row rfl 24 (.tmp 4) (.tmp 21) rfl (w.heap.size + 1) (mv 0 0 none 0 0) rfl rfl 24 (mv 0 0 none 0 0) hz2 matInfo3 rfl (mv_one _ _ _ _ _) ?_)
    refine bodyPost_ret (results_mat2 (g := w.heap.size + 1) (te := 24) (cs := mv 0 0 none 0 0) (fr := (0, 0)) rfl _ _ _ rfl (HFIN.out _ rfl).1 Try.underlying24 rfl matInfo3) rfl (Or.inr ⟨HNO.out, rfl, (HFIN.out _ rfl).2⟩)
  by_cases hm3 : 255 < m
  · have HNO : Hid (pkB r c n xs = false) := Lib.hid (pkB_false fun e => by have := (wi_true.1 e.2.1).2; rw [HL2.out] at this; omega)
    go_wp2_with (refine wpList_store_row rfl 24 (.tmp 4) (.tmp 21) rfl (w.heap.size + 1) (mv 0 0 none 0 0) rfl rfl 24 (mv 0 0 none 0 0) hz2 matInfo3 rfl (mv_one _ _ _ _ _) ?_)
    refine bodyPost_ret (results_mat2 (g := w.heap.size + 1) (te := 24) (cs := mv 0 0 none 0 0) (fr := (0, 0)) rfl _ _ _ rfl (HFIN.out _ rfl).1 Try.underlying24 rfl matInfo3) rfl (Or.inr ⟨HNO.out, rfl, (HFIN.out _ rfl).2⟩)
  obtain ⟨⟨hr1, hr2⟩, ⟨hc1, hc2⟩, hnn⟩ := mr_true.1 HB.out
  obtain ⟨R, rfl⟩ := Int.eq_ofNat_of_zero_le (show 0 ≤ r by omega)
  obtain ⟨C, rfl⟩ := Int.eq_ofNat_of_zero_le (show 0 ≤ c by omega)
  have HNN : Hid (n = R * C) := Lib.hid (by exact_mod_cast hnn)
  have HWI : Hid (wi (m : Int) = true) := Lib.hid (wi_true.2 ⟨by omega, by omega⟩)
  have hlz := HZ2.out.lt
  have hlm := HM2.out.lt
  clear hnn hz2 HFIN
  have H0 : Hid (PrI w w2.heap.size m C (Lin.pickL C bs (xs.map Int.toNat)) #[.int .i64 R, .int .i64 C, .slice A n k] 0 none 0 (w2.alloc (.cells #[.int .i64 m, .int .i64 C, .slice none 0 0] 24))) :=
    Lib.hid ⟨⟨Blk.new _ _ _, World.ownsRow_nil _ _ _ _, HS2.out.alloc HS2.out.size _, HS2.out.size⟩, HM2.out.alloc _, HZ2.out.alloc _⟩
  have HPR := Lib.hid fun p (hp : p < (xs.map Int.toNat).length) (hi : (xs.map Int.toNat)[p] < R) => Lin.pick_row (HL1.out.trans HNN.out) hp hi
  have HFL : Hid ((Lin.pickL C bs (xs.map Int.toNat)).length = m * C) := Lib.hid (by rw [Lin.pickL_length, List.length_map, HL2.out])
  have HFE : Hid (∃ F, F = Lin.pickL C bs (xs.map Int.toNat)) := Lib.hid ⟨_, rfl⟩
  go_upto_region 4 with fail
  generalize w2.alloc _ = w4 at *
  generalize w2.heap.size = go at *
  clear HM2 HZ2 HS2 m1 hlm
  go_wp2
  go_loopw [7] (fun i wr => ∃ (p : Nat) (A' : Option Addr) (c' : Nat), i = .int .i64 p ∧ p ≤ m ∧ Hid (PrI w go m C (Lin.pickL C bs (xs.map Int.toNat)) #[.int .i64 R, .int .i64 C, .slice A n k] (p * C) A' c' wr) ∧ Hid (∀ x ∈ xs.take p, 0 ≤ x ∧ x < (R : Int))) (fun i _ => m - (intOf i).toNat)
  case atStart => exact ⟨0, none, 0, rfl, Nat.zero_le _, by rw [Nat.zero_mul]; exact H0, Lib.hid (by intro x hx; simp at hx)⟩
  case round =>
    clear H0
    obtain ⟨p, A', c', rfl, hp, hI, hA⟩ := hrel
    by_cases hlt : p < m
    · have hpl : p < xs.length := by rw [HL2.out]; exact hlt
      have hpl2 : p < (xs.map Int.toNat).length := by rw [List.length_map]; exact hpl
      obtain ⟨ad, rfl, hab, hcx⟩ := rd_i64 (HXD.out.below hI.out.tu.below) hpl
      have labw : (ad.add p).block < w.heap.size := by rw [addr_add_block]; exact hab
      have hcx0 := (hI.out.tu.below.cell labw).symm.trans hcx
      have HTK := Lib.hid (List.take_succ_eq_append_getElem hpl)
      have HME := Lib.hid (List.getElem_mem hpl)
      have HPP := Lib.hid (HPR.out p hpl2)
      rw [List.getElem_map] at HPP
      have m0 := hI.out.m.cell 0
      simp only [List.getElem?_toArray, List.getElem?_cons_zero, List.getElem?_cons_succ] at m0
      have lm := hI.out.m.lt
      have lad := block_lt_of_cell hcx
      generalize xs[p] = x at *
      clear hpl hpl2
      by_cases hx0 : x < 0
      · have HNO : Hid (pkB R C n xs = false) := Lib.hid (pkB_false fun e => by have := (e.2.2 x HME.out).1; omega)
        have HFW := Lib.hid (hI.out.via (below_drewN (Below.refl _ _) 1)).fin
        have hzr : Blk wr.drew (w.heap.size + 1) 24 (mv 0 0 none 0 0) := hI.out.z
        have d1 : decide (x < 0) = true := decide_eq_true hx0
        clear hI
        go_wp2
        refine wp_region_held_drew (S := (fun wQq => Below (World.heap (wr.drew)).size (wr.drew) wQq)) (by kernel_rfl) (by exact Below.refl _ _) (fun _ => ?_)
        refine wpAnyH_take (i := 0) (v := ?_) rfl (by kernel_rfl) (by kernel_rfl) (by kernel_rfl) (fun _ _ _ h => h) (Or.inl ⟨by rfl, ?_⟩) (Below.refl _ _) ?_
        rotate_left
        · intro wS hSw
          go_simp
          try with_reducible rfl
        try simp only [List.getElem_toArray, List.getElem_cons_zero, List.getElem_cons_succ, Act.put, List.setIfInBounds_toArray, List.set_cons_zero, List.set_cons_succ]
        refine wpAnyH_take (i := 1) (v := ?_) rfl (by kernel_rfl) (by kernel_rfl) (by kernel_rfl) (fun _ _ _ h => h) (Or.inl ⟨by rfl, ?_⟩) (Below.refl _ _) ?_
        rotate_left
        · intro wS hSw
          go_simp
          try with_reducible rfl
        try simp only [List.getElem_toArray, List.getElem_cons_zero, List.getElem_cons_succ, Act.put, List.setIfInBounds_toArray, List.set_cons_zero, List.set_cons_succ]
        refine wpAnyH_take (i := 2) (v := ?_) rfl (by kernel_rfl) (by kernel_rfl) (by kernel_rfl) (fun _ _ _ h => h) (Or.inl ⟨by rfl, ?_⟩) (Below.refl _ _) ?_
        rotate_left
        · intro wS hSw
          go_simp
          try with_reducible rfl
        try simp only [List.getElem_toArray, List.getElem_cons_zero, List.getElem_cons_succ, Act.put, List.setIfInBounds_toArray, List.set_cons_zero, List.set_cons_succ]
        refine wpAnyH_take (i := 3) (v := ?_) rfl (by kernel_rfl) (by kernel_rfl) (by kernel_rfl) (fun _ _ _ h => h) (Or.inl ⟨by rfl, ?_⟩) (Below.refl _ _) ?_
        rotate_left
        · intro wS hSw
          have hcv := ((hSw.cell (p := ad.add p) (by exact lad)).trans hcx)
          go_simp
          try with_reducible rfl
        try simp only [List.getElem_toArray, List.getElem_cons_zero, List.getElem_cons_succ, Act.put, List.setIfInBounds_toArray, List.set_cons_zero, List.set_cons_succ]
        refine wpAnyH_take (i := 4) (v := ?_) rfl (by kernel_rfl) (by kernel_rfl) (by kernel_rfl) (fun _ _ _ h => h) (Or.inl ⟨by rfl, ?_⟩) (Below.refl _ _) ?_
        rotate_left
        · intro wS hSw
          go_simp
          try with_reducible rfl
        try simp only [List.getElem_toArray, List.getElem_cons_zero, List.getElem_cons_succ, Act.put, List.setIfInBounds_toArray, List.set_cons_zero, List.set_cons_succ]
        refine wpAnyH_take (i := 5) (v := ?_) rfl (by kernel_rfl) (by kernel_rfl) (by kernel_rfl) (fun _ _ _ h => h) (Or.inl ⟨by rfl, ?_⟩) (Below.refl _ _) ?_
        rotate_left
        · intro wS hSw
          go_simp
          try with_reducible rfl
        try simp only [List.getElem_toArray, List.getElem_cons_zero, List.getElem_cons_succ, Act.put, List.setIfInBounds_toArray, List.set_cons_zero, List.set_cons_succ]
        refine wpAnyH_take (i := 6) (v := undef) rfl (by kernel_rfl) (by kernel_rfl) (by kernel_rfl) (fun _ _ _ h => h) (Or.inr ⟨by rfl, rfl⟩) (Below.refl _ _) ?_
        try simp only [List.getElem_toArray, List.getElem_cons_zero, List.getElem_cons_succ, Act.put, List.setIfInBounds_toArray, List.set_cons_zero, List.set_cons_succ]
        refine wpAnyH_take (i := 7) (v := undef) rfl (by kernel_rfl) (by kernel_rfl) (by kernel_rfl) (fun _ _ _ h => h) (Or.inr ⟨by rfl, rfl⟩) (Below.refl _ _) ?_
        try simp only [List.getElem_toArray, List.getElem_cons_zero, List.getElem_cons_succ, Act.put, List.setIfInBounds_toArray, List.set_cons_zero, List.set_cons_succ]
        refine wpAnyH_take (i := 8) (v := undef) rfl (by kernel_rfl) (by kernel_rfl) (by kernel_rfl) (fun _ _ _ h => h) (Or.inr ⟨by rfl, rfl⟩) (Below.refl _ _) ?_
        try simp only [List.getElem_toArray, List.getElem_cons_zero, List.getElem_cons_succ, Act.put, List.setIfInBounds_toArray, List.set_cons_zero, List.set_cons_succ]
        refine wpAnyH_take (i := 9) (v := undef) rfl (by kernel_rfl) (by kernel_rfl) (by kernel_rfl) (fun _ _ _ h => h) (Or.inr ⟨by rfl, rfl⟩) (Below.refl _ _) ?_
        try simp only [List.getElem_toArray, List.getElem_cons_zero, List.getElem_cons_succ, Act.put, List.setIfInBounds_toArray, List.set_cons_zero, List.set_cons_succ]
        refine wpAnyH_take (i := 10) (v := undef) rfl (by kernel_rfl) (by kernel_rfl) (by kernel_rfl) (fun _ _ _ h => h) (Or.inr ⟨by rfl, rfl⟩) (Below.refl _ _) ?_
        try simp only [List.getElem_toArray, List.getElem_cons_zero, List.getElem_cons_succ, Act.put, List.setIfInBounds_toArray, List.set_cons_zero, List.set_cons_succ]
        refine wpAnyH_take (i := 11) (v := undef) rfl (by kernel_rfl) (by kernel_rfl) (by kernel_rfl) (fun _ _ _ h => h) (Or.inr ⟨by rfl, rfl⟩) (Below.refl _ _) ?_
        try simp only [List.getElem_toArray, List.getElem_cons_zero, List.getElem_cons_succ, Act.put, List.setIfInBounds_toArray, List.set_cons_zero, List.set_cons_succ]
        refine wpAnyH_take (i := 12) (v := undef) rfl (by kernel_rfl) (by kernel_rfl) (by kernel_rfl) (fun _ _ _ h => h) (Or.inr ⟨by rfl, rfl⟩) (Below.refl _ _) ?_
        try simp only [List.getElem_toArray, List.getElem_cons_zero, List.getElem_cons_succ, Act.put, List.setIfInBounds_toArray, List.set_cons_zero, List.set_cons_succ]
        refine wpAnyH_take (i := 13) (v := ?_) rfl (by kernel_rfl) (by kernel_rfl) (by kernel_rfl) (fun _ _ _ h => h) (Or.inl ⟨by rfl, ?_⟩) (Below.refl _ _) ?_
        rotate_left
        · intro wS hSw
          go_simp
          try with_reducible rfl
        try simp only [List.getElem_toArray, List.getElem_cons_zero, List.getElem_cons_succ, Act.put, List.setIfInBounds_toArray, List.set_cons_zero, List.set_cons_succ]
        refine wpAnyH_done (by kernel_rfl) ?_ _
        go_wp2_with (refine wpList_store_row rfl 24 (.tmp 4) (.tmp 47) rfl (w.heap.size + 1) (mv 0 0 none 0 0) rfl rfl 24 (mv 0 0 none 0 0) hzr matInfo3 rfl (mv_one _ _ _ _ _) ?_)
        refine bodyPost_ret (results_mat2 (g := w.heap.size + 1) (te := 24) (cs := mv 0 0 none 0 0) (fr := (0, 0)) rfl _ _ _ rfl HFW.out.1 Try.underlying24 rfl matInfo3) rfl (Or.inr ⟨HNO.out, rfl, HFW.out.2⟩)
      have d1 : decide (x < 0) = false := decide_eq_false hx0
      by_cases hx1 : (R : Int) ≤ x
      · have HNO : Hid (pkB R C n xs = false) := Lib.hid (pkB_false fun e => by have := (e.2.2 x HME.out).2; omega)
        have HFW := Lib.hid (hI.out.via (below_drewN (Below.refl _ _) 1)).fin
        have hzr : Blk wr.drew (w.heap.size + 1) 24 (mv 0 0 none 0 0) := hI.out.z
        have d2 : decide ((R : Int) ≤ x) = true := decide_eq_true hx1
        clear hI
        go_wp2
        refine wp_region_held_drew (S := (fun wQq => Below (World.heap (wr.drew)).size (wr.drew) wQq)) (by kernel_rfl) (by exact Below.refl _ _) (fun _ => ?_)
        refine wpAnyH_take (i := 0) (v := ?_) rfl (by kernel_rfl) (by kernel_rfl) (by kernel_rfl) (fun _ _ _ h => h) (Or.inl ⟨by rfl, ?_⟩) (Below.refl _ _) ?_
        rotate_left
        · intro wS hSw
          go_simp
          try with_reducible rfl
        try simp only [List.getElem_toArray, List.getElem_cons_zero, List.getElem_cons_succ, Act.put, List.setIfInBounds_toArray, List.set_cons_zero, List.set_cons_succ]
        refine wpAnyH_take (i := 1) (v := ?_) rfl (by kernel_rfl) (by kernel_rfl) (by kernel_rfl) (fun _ _ _ h => h) (Or.inl ⟨by rfl, ?_⟩) (Below.refl _ _) ?_
        rotate_left
        · intro wS hSw
          go_simp
          try with_reducible rfl
        try simp only [List.getElem_toArray, List.getElem_cons_zero, List.getElem_cons_succ, Act.put, List.setIfInBounds_toArray, List.set_cons_zero, List.set_cons_succ]
        refine wpAnyH_take (i := 2) (v := ?_) rfl (by kernel_rfl) (by kernel_rfl) (by kernel_rfl) (fun _ _ _ h => h) (Or.inl ⟨by rfl, ?_⟩) (Below.refl _ _) ?_
        rotate_left
        · intro wS hSw
          go_simp
          try with_reducible rfl
        try simp only [List.getElem_toArray, List.getElem_cons_zero, List.getElem_cons_succ, Act.put, List.setIfInBounds_toArray, List.set_cons_zero, List.set_cons_succ]
        refine wpAnyH_take (i := 3) (v := ?_) rfl (by kernel_rfl) (by kernel_rfl) (by kernel_rfl) (fun _ _ _ h => h) (Or.inl ⟨by rfl, ?_⟩) (Below.refl _ _) ?_
        rotate_left
        · intro wS hSw
          have hcv := ((hSw.cell (p := ad.add p) (by exact lad)).trans hcx)
          go_simp
          try with_reducible rfl
        try simp only [List.getElem_toArray, List.getElem_cons_zero, List.getElem_cons_succ, Act.put, List.setIfInBounds_toArray, List.set_cons_zero, List.set_cons_succ]
        refine wpAnyH_take (i := 4) (v := ?_) rfl (by kernel_rfl) (by kernel_rfl) (by kernel_rfl) (fun _ _ _ h => h) (Or.inl ⟨by rfl, ?_⟩) (Below.refl _ _) ?_
        rotate_left
        · intro wS hSw
          go_simp
          try with_reducible rfl
        try simp only [List.getElem_toArray, List.getElem_cons_zero, List.getElem_cons_succ, Act.put, List.setIfInBounds_toArray, List.set_cons_zero, List.set_cons_succ]
        refine wpAnyH_take (i := 5) (v := ?_) rfl (by kernel_rfl) (by kernel_rfl) (by kernel_rfl) (fun _ _ _ h => h) (Or.inl ⟨by rfl, ?_⟩) (Below.refl _ _) ?_
        rotate_left
        · intro wS hSw
          go_simp
          try with_reducible rfl
        try simp only [List.getElem_toArray, List.getElem_cons_zero, List.getElem_cons_succ, Act.put, List.setIfInBounds_toArray, List.set_cons_zero, List.set_cons_succ]
        refine wpAnyH_take (i := 6) (v := ?_) rfl (by kernel_rfl) (by kernel_rfl) (by kernel_rfl) (fun _ _ _ h => h) (Or.inl ⟨by rfl, ?_⟩) (Below.refl _ _) ?_
        rotate_left
        · intro wS hSw
          go_simp
          try with_reducible rfl
        try simp only [List.getElem_toArray, List.getElem_cons_zero, List.getElem_cons_succ, Act.put, List.setIfInBounds_toArray, List.set_cons_zero, List.set_cons_succ]
        refine wpAnyH_take (i := 7) (v := ?_) rfl (by kernel_rfl) (by kernel_rfl) (by kernel_rfl) (fun _ _ _ h => h) (Or.inl ⟨by rfl, ?_⟩) (Below.refl _ _) ?_
        rotate_left
        · intro wS hSw
          go_simp
          try with_reducible rfl
        try simp only [List.getElem_toArray, List.getElem_cons_zero, List.getElem_cons_succ, Act.put, List.setIfInBounds_toArray, List.set_cons_zero, List.set_cons_succ]
        refine wpAnyH_take (i := 8) (v := ?_) rfl (by kernel_rfl) (by kernel_rfl) (by kernel_rfl) (fun _ _ _ h => h) (Or.inl ⟨by rfl, ?_⟩) (Below.refl _ _) ?_
        rotate_left
        · intro wS hSw
          go_simp
          try with_reducible rfl
        try simp only [List.getElem_toArray, List.getElem_cons_zero, List.getElem_cons_succ, Act.put, List.setIfInBounds_toArray, List.set_cons_zero, List.set_cons_succ]
        refine wpAnyH_take (i := 10) (v := ?_) rfl (by kernel_rfl) (by kernel_rfl) (by kernel_rfl) (fun _ _ _ h => h) (Or.inl ⟨by rfl, ?_⟩) (Below.refl _ _) ?_
        rotate_left
        · intro wS hSw
          go_simp
          try with_reducible rfl
        try simp only [List.getElem_toArray, List.getElem_cons_zero, List.getElem_cons_succ, Act.put, List.setIfInBounds_toArray, List.set_cons_zero, List.set_cons_succ]
        refine wpAnyH_take (i := 9) (v := ?_) rfl (by kernel_rfl) (by kernel_rfl) (by kernel_rfl) (fun _ _ _ h => h) (Or.inl ⟨by rfl, ?_⟩) (Below.refl _ _) ?_
        rotate_left
        · intro wS hSw
          have hcv := ((hSw.cell (p := ad.add p) (by exact lad)).trans hcx)
          go_simp
          try with_reducible rfl
        try simp only [List.getElem_toArray, List.getElem_cons_zero, List.getElem_cons_succ, Act.put, List.setIfInBounds_toArray, List.set_cons_zero, List.set_cons_succ]
        refine wpAnyH_take (i := 11) (v := ?_) rfl (by kernel_rfl) (by kernel_rfl) (by kernel_rfl) (fun _ _ _ h => h) (Or.inl ⟨by rfl, ?_⟩) (Below.refl _ _) ?_
        rotate_left
        · intro wS hSw
          have hcv := ((hSw.cell (p := ⟨w.heap.size, 0, none⟩) (by exact lm)).trans m0)
          go_simp
          try with_reducible rfl
        try simp only [List.getElem_toArray, List.getElem_cons_zero, List.getElem_cons_succ, Act.put, List.setIfInBounds_toArray, List.set_cons_zero, List.set_cons_succ]
        refine wpAnyH_take (i := 12) (v := ?_) rfl (by kernel_rfl) (by kernel_rfl) (by kernel_rfl) (fun _ _ _ h => h) (Or.inl ⟨by rfl, ?_⟩) (Below.refl _ _) ?_
        rotate_left
        · intro wS hSw
          go_simp
          try with_reducible rfl
        try simp only [List.getElem_toArray, List.getElem_cons_zero, List.getElem_cons_succ, Act.put, List.setIfInBounds_toArray, List.set_cons_zero, List.set_cons_succ]
        refine wpAnyH_take (i := 13) (v := ?_) rfl (by kernel_rfl) (by kernel_rfl) (by kernel_rfl) (fun _ _ _ h => h) (Or.inl ⟨by rfl, ?_⟩) (Below.refl _ _) ?_
        rotate_left
        · intro wS hSw
          go_simp
          try with_reducible rfl
        try simp only [List.getElem_toArray, List.getElem_cons_zero, List.getElem_cons_succ, Act.put, List.setIfInBounds_toArray, List.set_cons_zero, List.set_cons_succ]
        refine wpAnyH_done (by kernel_rfl) ?_ _
        go_wp2_with (refine wpList_store_row rfl 24 (.tmp 4) (.tmp 47) rfl (w.heap.size + 1) (mv 0 0 none 0 0) rfl rfl 24 (mv 0 0 none 0 0) hzr matInfo3 rfl (mv_one _ _ _ _ _) ?_)
        refine bodyPost_ret (results_mat2 (g := w.heap.size + 1) (te := 24) (cs := mv 0 0 none 0 0) (fr := (0, 0)) rfl _ _ _ rfl HFW.out.1 Try.underlying24 rfl matInfo3) rfl (Or.inr ⟨HNO.out, rfl, HFW.out.2⟩)
      obtain ⟨X, rfl⟩ := Int.eq_ofNat_of_zero_le (show 0 ≤ x by omega)
      have hXR : X < R := by omega
      have d2 : decide ((R : Int) ≤ (X : Int)) = false := decide_eq_false hx1
      have d3 : decide (R ≤ X) = false := decide_eq_false (by omega)
      have HA2 : Hid (∀ x ∈ xs.take (p + 1), 0 ≤ x ∧ x < (R : Int)) := Lib.hid (by
        rw [HTK.out]
        intro y hy
        rcases List.mem_append.1 hy with hy | hy
        · exact hA.out y hy
        · rw [List.mem_singleton] at hy
          subst hy
          omega)
      have HPX := Lib.hid (HPP.out (by rw [Int.toNat_natCast]; exact hXR))
      rw [Int.toNat_natCast] at HPX
      have HRW := Lib.hid fun W => refRow4 R C X A n k hXR (by omega) (by omega) HNN.out HKK.out W
      unfold mv at HRW
      have HRR := Lib.hid fun W (hb : Below w.heap.size w W) => (by
        have := ((HRD.out.below hb).cut (c := k) (k := X * C) (by
          rw [List.length_map, HL1.out, HNN.out]
          exact Nat.mul_le_mul_right C (Nat.le_of_lt hXR)) (by rw [List.length_map, HL1.out]; exact HKK.out)).take C
        rw [← List.map_drop, ← List.map_take] at this
        exact this : Rd W w.heap.size (cut A k (X * C)) ((Lin.rowOf C bs X).map bv))
      have HRL := Lib.hid (Lin.rowOf_length (HL1.out.trans HNN.out) hXR)
      have hpc : p * C ≤ 300 * 255 := Nat.mul_le_mul (by omega) (by omega)
      have hpp : Hid ((p + 1) * C = p * C + C) := Lib.hid (Nat.succ_mul p C)
      generalize cut A k (X * C) = Ax at *
      generalize k - X * C = kx at *
      generalize Lin.rowOf C bs X = row at *
      generalize Lin.pickL C bs (xs.map Int.toNat) = F at *
      clear hA HTK HME HPP HPR hx0 hx1
      have HII : Hid (PrI w go m C F #[.int .i64 R, .int .i64 C, .slice A n k] (p * C) A' c' wr.drew.drew) := Lib.hid (hI.out.via (below_drewN (below_drewN (Below.refl _ _) 1) 1))
      have HP0 : Hid (Blk wr.drew.drew w.heap.size 24 #[.int .i64 R, .int .i64 C, .slice A n k] ∧ Below w.heap.size w wr.drew.drew) := Lib.hid ⟨HII.out.m, HII.out.tu.below⟩
      have hcm : wr.drew.drew.cell? ⟨go, 2, none⟩ = some (.slice A' (p * C) c') := HII.out.tu.blk.cell 2
      have hgl : go < wr.drew.drew.heap.size := HII.out.tu.blk.lt
      have hlz2 : w.heap.size + 1 < go := hlz
      clear hI
      go_wp2
      refine wp_region_held_drew (S := (fun wQq => Below (World.heap (wr.drew)).size (wr.drew) wQq)) (by kernel_rfl) (by exact Below.refl _ _) (fun _ => ?_)
      refine wpAnyH_take (i := 0) (v := ?_) rfl (by kernel_rfl) (by kernel_rfl) (by kernel_rfl) (fun _ _ _ h => h) (Or.inl ⟨by rfl, ?_⟩) (Below.refl _ _) ?_
      rotate_left
      · intro wS hSw
        go_simp
        try with_reducible rfl
      try simp only [List.getElem_toArray, List.getElem_cons_zero, List.getElem_cons_succ, Act.put, List.setIfInBounds_toArray, List.set_cons_zero, List.set_cons_succ]
      refine wpAnyH_take (i := 1) (v := ?_) rfl (by kernel_rfl) (by kernel_rfl) (by kernel_rfl) (fun _ _ _ h => h) (Or.inl ⟨by rfl, ?_⟩) (Below.refl _ _) ?_
      rotate_left
      · intro wS hSw
        go_simp
        try with_reducible rfl
      try simp only [List.getElem_toArray, List.getElem_cons_zero, List.getElem_cons_succ, Act.put, List.setIfInBounds_toArray, List.set_cons_zero, List.set_cons_succ]
      refine wpAnyH_take (i := 2) (v := ?_) rfl (by kernel_rfl) (by kernel_rfl) (by kernel_rfl) (fun _ _ _ h => h) (Or.inl ⟨by rfl, ?_⟩) (Below.refl _ _) ?_
      rotate_left
      · intro wS hSw
        go_simp
        try with_reducible rfl
      try simp only [List.getElem_toArray, List.getElem_cons_zero, List.getElem_cons_succ, Act.put, List.setIfInBounds_toArray, List.set_cons_zero, List.set_cons_succ]
      refine wpAnyH_take (i := 3) (v := ?_) rfl (by kernel_rfl) (by kernel_rfl) (by kernel_rfl) (fun _ _ _ h => h) (Or.inl ⟨by rfl, ?_⟩) (Below.refl _ _) ?_
      rotate_left
      · intro wS hSw
        have hcv := ((hSw.cell (p := ad.add p) (by exact lad)).trans hcx)
        go_simp
        try with_reducible rfl
      try simp only [List.getElem_toArray, List.getElem_cons_zero, List.getElem_cons_succ, Act.put, List.setIfInBounds_toArray, List.set_cons_zero, List.set_cons_succ]
      refine wpAnyH_take (i := 4) (v := ?_) rfl (by kernel_rfl) (by kernel_rfl) (by kernel_rfl) (fun _ _ _ h => h) (Or.inl ⟨by rfl, ?_⟩) (Below.refl _ _) ?_
      rotate_left
      · intro wS hSw
        go_simp
        try with_reducible rfl
      try simp only [List.getElem_toArray, List.getElem_cons_zero, List.getElem_cons_succ, Act.put, List.setIfInBounds_toArray, List.set_cons_zero, List.set_cons_succ]
      refine wpAnyH_take (i := 5) (v := ?_) rfl (by kernel_rfl) (by kernel_rfl) (by kernel_rfl) (fun _ _ _ h => h) (Or.inl ⟨by rfl, ?_⟩) (Below.refl _ _) ?_
      rotate_left
      · intro wS hSw
        go_simp
        try with_reducible rfl
      try simp only [List.getElem_toArray, List.getElem_cons_zero, List.getElem_cons_succ, Act.put, List.setIfInBounds_toArray, List.set_cons_zero, List.set_cons_succ]
      refine wpAnyH_take (i := 6) (v := ?_) rfl (by kernel_rfl) (by kernel_rfl) (by kernel_rfl) (fun _ _ _ h => h) (Or.inl ⟨by rfl, ?_⟩) (Below.refl _ _) ?_
      rotate_left
      · intro wS hSw
        go_simp
        try with_reducible rfl
      try simp only [List.getElem_toArray, List.getElem_cons_zero, List.getElem_cons_succ, Act.put, List.setIfInBounds_toArray, List.set_cons_zero, List.set_cons_succ]
      refine wpAnyH_take (i := 7) (v := ?_) rfl (by kernel_rfl) (by kernel_rfl) (by kernel_rfl) (fun _ _ _ h => h) (Or.inl ⟨by rfl, ?_⟩) (Below.refl _ _) ?_
      rotate_left
      · intro wS hSw
        go_simp
        try with_reducible rfl
      try simp only [List.getElem_toArray, List.getElem_cons_zero, List.getElem_cons_succ, Act.put, List.setIfInBounds_toArray, List.set_cons_zero, List.set_cons_succ]
      refine wpAnyH_take (i := 8) (v := ?_) rfl (by kernel_rfl) (by kernel_rfl) (by kernel_rfl) (fun _ _ _ h => h) (Or.inl ⟨by rfl, ?_⟩) (Below.refl _ _) ?_
      rotate_left
      · intro wS hSw
        go_simp
        try with_reducible rfl
      try simp only [List.getElem_toArray, List.getElem_cons_zero, List.getElem_cons_succ, Act.put, List.setIfInBounds_toArray, List.set_cons_zero, List.set_cons_succ]
      refine wpAnyH_take (i := 10) (v := ?_) rfl (by kernel_rfl) (by kernel_rfl) (by kernel_rfl) (fun _ _ _ h => h) (Or.inl ⟨by rfl, ?_⟩) (Below.refl _ _) ?_
      rotate_left
      · intro wS hSw
        go_simp
        try with_reducible rfl
      try simp only [List.getElem_toArray, List.getElem_cons_zero, List.getElem_cons_succ, Act.put, List.setIfInBounds_toArray, List.set_cons_zero, List.set_cons_succ]
      refine wpAnyH_take (i := 9) (v := ?_) rfl (by kernel_rfl) (by kernel_rfl) (by kernel_rfl) (fun _ _ _ h => h) (Or.inl ⟨by rfl, ?_⟩) (Below.refl _ _) ?_
      rotate_left
      · intro wS hSw
        have hcv := ((hSw.cell (p := ad.add p) (by exact lad)).trans hcx)
        go_simp
        try with_reducible rfl
      try simp only [List.getElem_toArray, List.getElem_cons_zero, List.getElem_cons_succ, Act.put, List.setIfInBounds_toArray, List.set_cons_zero, List.set_cons_succ]
      refine wpAnyH_take (i := 11) (v := ?_) rfl (by kernel_rfl) (by kernel_rfl) (by kernel_rfl) (fun _ _ _ h => h) (Or.inl ⟨by rfl, ?_⟩) (Below.refl _ _) ?_
      rotate_left
      · intro wS hSw
        have hcv := ((hSw.cell (p := ⟨w.heap.size, 0, none⟩) (by exact lm)).trans m0)
        go_simp
        try with_reducible rfl
      try simp only [List.getElem_toArray, List.getElem_cons_zero, List.getElem_cons_succ, Act.put, List.setIfInBounds_toArray, List.set_cons_zero, List.set_cons_succ]
      refine wpAnyH_take (i := 12) (v := ?_) rfl (by kernel_rfl) (by kernel_rfl) (by kernel_rfl) (fun _ _ _ h => h) (Or.inl ⟨by rfl, ?_⟩) (Below.refl _ _) ?_
      rotate_left
      · intro wS hSw
        go_simp
        try with_reducible rfl
      try simp only [List.getElem_toArray, List.getElem_cons_zero, List.getElem_cons_succ, Act.put, List.setIfInBounds_toArray, List.set_cons_zero, List.set_cons_succ]
      refine wpAnyH_take (i := 13) (v := ?_) rfl (by kernel_rfl) (by kernel_rfl) (by kernel_rfl) (fun _ _ _ h => h) (Or.inl ⟨by rfl, ?_⟩) (Below.refl _ _) ?_
      rotate_left
      · intro wS hSw
        go_simp
        try with_reducible rfl
      try simp only [List.getElem_toArray, List.getElem_cons_zero, List.getElem_cons_succ, Act.put, List.setIfInBounds_toArray, List.set_cons_zero, List.set_cons_succ]
      refine wpAnyH_done (by kernel_rfl) ?_ _
      go_wp2
      refine wp_region_held_drew (S := (fun wQq => Blk wQq w.heap.size 24 #[.int .i64 R, .int .i64 C, .slice A n k] ∧ Below w.heap.size w wQq)) (by kernel_rfl) (HP0.out) (fun _ => ?_)
      refine wpAnyH_take (i := 0) (v := ?_) rfl (by kernel_rfl) (by kernel_rfl) (by kernel_rfl) (fun _ _ _ h => h) (Or.inl ⟨by rfl, ?_⟩) (HP0.out) ?_
      rotate_left
      · intro wS hSw
        go_simp
        try with_reducible rfl
      try simp only [List.getElem_toArray, List.getElem_cons_zero, List.getElem_cons_succ, Act.put, List.setIfInBounds_toArray, List.set_cons_zero, List.set_cons_succ]
      refine wpAnyH_take (i := 3) (v := ?_) rfl (by kernel_rfl) (by kernel_rfl) (by kernel_rfl) (fun _ _ _ h => h) (Or.inl ⟨by rfl, ?_⟩) (HP0.out) ?_
      rotate_left
      · intro wS hSw
        go_simp
        try with_reducible rfl
      try simp only [List.getElem_toArray, List.getElem_cons_zero, List.getElem_cons_succ, Act.put, List.setIfInBounds_toArray, List.set_cons_zero, List.set_cons_succ]
      refine wpAnyH_take (i := 4) (v := ?_) rfl (by kernel_rfl) (by kernel_rfl) (by kernel_rfl) (fun _ _ _ h => h) (Or.inl ⟨by rfl, ?_⟩) (HP0.out) ?_
      rotate_left
      · intro wS hSw
        go_simp
        try with_reducible rfl
      try simp only [List.getElem_toArray, List.getElem_cons_zero, List.getElem_cons_succ, Act.put, List.setIfInBounds_toArray, List.set_cons_zero, List.set_cons_succ]
      refine wpAnyH_take (i := 5) (v := ?_) rfl (by kernel_rfl) (by kernel_rfl) (by kernel_rfl) (fun _ _ _ h => h) (Or.inl ⟨by rfl, ?_⟩) (HP0.out) ?_
      rotate_left
      · intro wS hSw
        go_simp
        try with_reducible rfl
      try simp only [List.getElem_toArray, List.getElem_cons_zero, List.getElem_cons_succ, Act.put, List.setIfInBounds_toArray, List.set_cons_zero, List.set_cons_succ]
      refine wpAnyH_take (i := 2) (v := ?_) rfl (by kernel_rfl) (by kernel_rfl) (by kernel_rfl) (fun _ _ _ h => h) (Or.inl ⟨by rfl, ?_⟩) (HP0.out) ?_
      rotate_left
      · intro wS hSw
        have hcv := hSw.1.cell 0
        have hcv1 := hSw.1.cell 1
        have hcv2 := hSw.1.cell 2
        go_simp
        try with_reducible rfl
      try simp only [List.getElem_toArray, List.getElem_cons_zero, List.getElem_cons_succ, Act.put, List.setIfInBounds_toArray, List.set_cons_zero, List.set_cons_succ]
      refine wpAnyH_take (i := 6) (v := ?_) rfl (by kernel_rfl) (by kernel_rfl) (by kernel_rfl) (fun _ _ _ h => h) (Or.inl ⟨by rfl, ?_⟩) (HP0.out) ?_
      rotate_left
      · intro wS hSw
        have hcv := (hSw.2.cell (p := ad.add p) (by exact labw)).trans hcx0
        go_simp
        try with_reducible rfl
      try simp only [List.getElem_toArray, List.getElem_cons_zero, List.getElem_cons_succ, Act.put, List.setIfInBounds_toArray, List.set_cons_zero, List.set_cons_succ]
      refine wpAnyH_ready (rs := [1, 7]) (by kernel_rfl) (by simp) ?_
      refine AllReadyH.cons rfl (fun K hK => ?_) (AllReadyH.cons rfl (fun K hK => ?_) AllReadyH.nil)
      · go_simp
        refine hK.out _ _ HP0.out (fun _ => ?_)
        clear hK K
        try simp only [List.getElem_toArray, List.getElem_cons_zero, List.getElem_cons_succ, Act.put, List.setIfInBounds_toArray, List.set_cons_zero, List.set_cons_succ]
        refine wpAnyH_ready (rs := [7]) (by kernel_rfl) (by simp) ?_
        refine AllReadyH.cons rfl (fun K hK => ?_) AllReadyH.nil
        go_simp
        refine (HRW.out _).mono ?_
        rintro e w5 ⟨rfl, hb5⟩
        have HI5 := Lib.hid (HII.out.via hb5)
        have HP2 := Lib.hid (And.intro HI5.out.m HI5.out.tu.below)
        have hcm5 : w5.cell? ⟨go, 2, none⟩ = some (.slice A' (p * C) c') := HI5.out.tu.blk.cell 2
        have hlt5 := HI5.out.tu.blk.lt
        have hsz5 := HI5.out.tu.below.size
        clear hb5
        refine hK.out _ _ HP2.out (fun _ => ?_)
        clear hK K
        try simp only [List.getElem_toArray, List.getElem_cons_zero, List.getElem_cons_succ, Act.put, List.setIfInBounds_toArray, List.set_cons_zero, List.set_cons_succ]
        refine wpAnyH_ready (rs := [8]) (by kernel_rfl) (by simp) ?_
        refine AllReadyH.cons rfl (fun K hK => ?_) AllReadyH.nil
        refine wp_appB (.tmp 49) (.tmp 55) rfl w.heap.size A' (p * C) c' ((F.take (p * C)).map bv) rfl HI5.out.tu.own _ Ax C kx (row.map bv) rfl (by rw [List.length_map]; exact HRL.out) (HRR.out w5 HI5.out.tu.below) one_bytes (by omega) hsz5 ?_
        intro A3 c3 w8 ho8 hg8 hb8
        have hk8 := HI5.out.tu.keptR hg8 HI5.out.tu.blk (by decide)
        have hcm8 := hk8.cell 2
        rw [show (mv (m : Int) (C : Int) A' (p * C) c')[2]? = some (.slice A' (p * C) c') from rfl] at hcm8
        have hfm8 := hk8.frozen 2
        have HP8 := Lib.hid (And.intro (HI5.out.tu.keptR hg8 HI5.out.m (by decide)) (HI5.out.tu.below.grown hg8 HI5.out.tu.below.size fun k hk => (HI5.out.tu.own.lt k hk).1))
        have HI8 := Lib.hid (HI5.out.pushN hlz2 HPX.out ho8 hg8)
        clear hk8 ho8 hg8 hb8
        refine hK.out _ _ HP8.out (fun _ => ?_)
        clear hK K
        try simp only [List.getElem_toArray, List.getElem_cons_zero, List.getElem_cons_succ, Act.put, List.setIfInBounds_toArray, List.set_cons_zero, List.set_cons_succ]
        refine wpAnyH_take (i := 9) (v := ?_) rfl (by kernel_rfl) (by kernel_rfl) (by kernel_rfl) (fun _ _ _ h => h) (Or.inl ⟨by rfl, ?_⟩) HP8.out ?_
        rotate_left
        · intro wS hSw
          go_simp
          try with_reducible rfl
        try simp only [List.getElem_toArray, List.getElem_cons_zero, List.getElem_cons_succ, Act.put, List.setIfInBounds_toArray, List.set_cons_zero, List.set_cons_succ]
        refine wpAnyH_ready (rs := [10]) (by kernel_rfl) (by simp) ?_
        refine AllReadyH.cons rfl (fun K hK => ?_) AllReadyH.nil
        go_simp
        refine hK.out _ _ ⟨HI8.out.m, HI8.out.tu.below⟩ (fun _ => ?_)
        clear hK K
        try simp only [List.getElem_toArray, List.getElem_cons_zero, List.getElem_cons_succ, Act.put, List.setIfInBounds_toArray, List.set_cons_zero, List.set_cons_succ]
        refine wpAnyH_done (by kernel_rfl) ?_ _
        go_wp2
        go_roundw
        case rel => exact ⟨p + 1, A3, c3, by go_num, hlt, Lib.hid (by rw [hpp.out]; exact HI8.out), HA2⟩
        case measure => simp [intOf]; omega
      · go_simp
        refine (HRW.out _).mono ?_
        rintro e w5 ⟨rfl, hb5⟩
        have HI5 := Lib.hid (HII.out.via hb5)
        have HP2 := Lib.hid (And.intro HI5.out.m HI5.out.tu.below)
        have hcm5 : w5.cell? ⟨go, 2, none⟩ = some (.slice A' (p * C) c') := HI5.out.tu.blk.cell 2
        have hlt5 := HI5.out.tu.blk.lt
        have hsz5 := HI5.out.tu.below.size
        clear hb5
        refine hK.out _ _ HP2.out (fun _ => ?_)
        clear hK K
        try simp only [List.getElem_toArray, List.getElem_cons_zero, List.getElem_cons_succ, Act.put, List.setIfInBounds_toArray, List.set_cons_zero, List.set_cons_succ]
        refine wpAnyH_ready (rs := [1]) (by kernel_rfl) (by simp) ?_
        refine AllReadyH.cons rfl (fun K hK => ?_) AllReadyH.nil
        go_simp
        refine hK.out _ _ HP2.out (fun _ => ?_)
        clear hK K
        try simp only [List.getElem_toArray, List.getElem_cons_zero, List.getElem_cons_succ, Act.put, List.setIfInBounds_toArray, List.set_cons_zero, List.set_cons_succ]
        refine wpAnyH_ready (rs := [8]) (by kernel_rfl) (by simp) ?_
        refine AllReadyH.cons rfl (fun K hK => ?_) AllReadyH.nil
        refine wp_appB (.tmp 49) (.tmp 55) rfl w.heap.size A' (p * C) c' ((F.take (p * C)).map bv) rfl HI5.out.tu.own _ Ax C kx (row.map bv) rfl (by rw [List.length_map]; exact HRL.out) (HRR.out w5 HI5.out.tu.below) one_bytes (by omega) hsz5 ?_
        intro A3 c3 w8 ho8 hg8 hb8
        have hk8 := HI5.out.tu.keptR hg8 HI5.out.tu.blk (by decide)
        have hcm8 := hk8.cell 2
        rw [show (mv (m : Int) (C : Int) A' (p * C) c')[2]? = some (.slice A' (p * C) c') from rfl] at hcm8
        have hfm8 := hk8.frozen 2
        have HP8 := Lib.hid (And.intro (HI5.out.tu.keptR hg8 HI5.out.m (by decide)) (HI5.out.tu.below.grown hg8 HI5.out.tu.below.size fun k hk => (HI5.out.tu.own.lt k hk).1))
        have HI8 := Lib.hid (HI5.out.pushN hlz2 HPX.out ho8 hg8)
        clear hk8 ho8 hg8 hb8
        refine hK.out _ _ HP8.out (fun _ => ?_)
        clear hK K
        try simp only [List.getElem_toArray, List.getElem_cons_zero, List.getElem_cons_succ, Act.put, List.setIfInBounds_toArray, List.set_cons_zero, List.set_cons_succ]
        refine wpAnyH_take (i := 9) (v := ?_) rfl (by kernel_rfl) (by kernel_rfl) (by kernel_rfl) (fun _ _ _ h => h) (Or.inl ⟨by rfl, ?_⟩) HP8.out ?_
        rotate_left
        · intro wS hSw
          go_simp
          try with_reducible rfl
        try simp only [List.getElem_toArray, List.getElem_cons_zero, List.getElem_cons_succ, Act.put, List.setIfInBounds_toArray, List.set_cons_zero, List.set_cons_succ]
        refine wpAnyH_ready (rs := [10]) (by kernel_rfl) (by simp) ?_
        refine AllReadyH.cons rfl (fun K hK => ?_) AllReadyH.nil
        go_simp
        refine hK.out _ _ ⟨HI8.out.m, HI8.out.tu.below⟩ (fun _ => ?_)
        clear hK K
        try simp only [List.getElem_toArray, List.getElem_cons_zero, List.getElem_cons_succ, Act.put, List.setIfInBounds_toArray, List.set_cons_zero, List.set_cons_succ]
        refine wpAnyH_done (by kernel_rfl) ?_ _
        go_wp2
        go_roundw
        case rel => exact ⟨p + 1, A3, c3, by go_num, hlt, Lib.hid (by rw [hpp.out]; exact HI8.out), HA2⟩
        case measure => simp [intOf]; omega
    · obtain rfl : p = m := by omega
      have hb := hI.out.tu.blk
      have hz := hI.out.z
      have HII := Lib.hid hI.out.tu
      have HAL : Hid (∀ x ∈ xs, 0 ≤ x ∧ x < (R : Int)) := Lib.hid (by
        have := hA.out
        rwa [List.take_of_length_le (by rw [HL2.out]; exact Nat.le_refl _)] at this)
      have HYE : Hid (pkB R C n xs = true) := Lib.hid (pkB_true.2 ⟨HB.out, by rw [HL2.out]; exact HWI.out, HAL.out⟩)
      have HNE : Hid ((Value.slice A' (p * C) c').ownBlock ≠ some (w.heap.size + 1)) := Lib.hid fun he => by
        have := Ty.one (own_blockV HII.out.own he).1 hz.ty
        exact absurd this (by decide)
      clear hI hlt hA
      go_wp2_with (first | (refine wpList_load_row rfl 24 (.tmp 6) rfl go rfl 24 (mv p C A' (p * C) c') (0, 0) _ hb Try.underlying24 rfl matInfo3 ?_) | (refine wpList_store_row rfl 24 (.tmp 4) (.tmp 58) rfl (w.heap.size + 1) (mv p C A' (p * C) c') rfl rfl 24 (mv 0 0 none 0 0) hz matInfo3 rfl (mv_one _ _ _ _ _) ?_))
      refine bodyPost_ret (results_mat2 (g := w.heap.size + 1) (te := 24) (cs := mv p C A' (p * C) c') (fr := (0, 0)) rfl _ _ _ rfl (hz.row _) Try.underlying24 rfl matInfo3) rfl (Or.inl ⟨HYE.out, A', c', by rw [HL2.out, Int.toNat_natCast]; rfl, ?_, below_setRow HII.out.below (by omega) _⟩)
      rw [HL2.out, Int.toNat_natCast]
      have ho := HII.out.own
      rw [List.take_of_length_le (by rw [HFL.out]; exact Nat.le_refl _)] at ho
      exact own_setRow ho HNE.out _
end Cib
