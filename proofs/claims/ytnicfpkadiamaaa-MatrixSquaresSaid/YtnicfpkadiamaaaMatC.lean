/- What Cauchy does. -/
import Derived.Test.YtnicfpkadiamaaaMatF
set_option linter.unusedVariables false
set_option linter.unusedSimpArgs false
set_option maxRecDepth 40000
namespace Cib
open Go Go.RowKit Go.Proofs
/-- A number of a Cauchy matrix. -/
def cauV (xs ys : List UInt8) (i j : Nat) : UInt8 := UInt8.ofNat (divA 1 ((xs.getD i 0).toNat ^^^ (ys.getD j 0).toNat)).1
theorem divA_lt (a b : Nat) : (divA a b).1 < 256 := by
  unfold divA
  split
  · decide
  · exact Fld.gdiv_lt _ _
theorem cauV_nat (xs ys : List UInt8) (i j : Nat) : (cauV xs ys i j).toNat = (divA 1 ((xs.getD i 0).toNat ^^^ (ys.getD j 0).toNat)).1 := by
  unfold cauV
  rw [UInt8.toNat_ofNat', Nat.mod_eq_of_lt (divA_lt _ _)]
theorem matCell (g g3 g4 g5 : Nat) (A1 A2 : Option Addr) (n1 n2 c1 c2 : Nat) (xs ys : List UInt8) (i j : Nat) (W : World) (hf : Full W g) (B : Nat) (hB : B ≤ W.heap.size)
    (h3 : W.cell? ⟨g3, 0, none⟩ = some (.pointer (some ⟨g, 0, none⟩))) (h4 : W.cell? ⟨g4, 0, none⟩ = some (.slice A1 n1 c1)) (h5 : W.cell? ⟨g5, 0, none⟩ = some (.slice A2 n2 c2))
    (hx : Rd W B A1 (xs.map bv)) (hy : Rd W B A2 (ys.map bv)) (hn1 : xs.length = n1) (hn2 : ys.length = n2) (hi : i < n1) (hj : j < n2) (hn3 : n1 ≤ 255) (hn4 : n2 ≤ 255) :
    Calls Try.prog 45 #[.int .i64 (i : Int), .int .i64 (j : Int), .pointer (some ⟨g3, 0, none⟩), .pointer (some ⟨g4, 0, none⟩), .pointer (some ⟨g5, 0, none⟩)] W fun e W' => e = .returned (.int .u8 ((cauV xs ys i j).toNat : Int)) ∧ Below W.heap.size W W' := by
  rw [cauV_nat]
  have hi' : i < xs.length := by omega
  have hj' : j < ys.length := by omega
  obtain ⟨a1, rfl, hb1, hc1⟩ := hx.byte hi'
  obtain ⟨a2, rfl, hb2, hc2⟩ := hy.byte hj'
  rw [show xs.getD i 0 = xs[i] from by simp [List.getD, hi'], show ys.getD j 0 = ys[j] from by simp [List.getD, hj']]
  have hd1 := xs[i].toNat_lt
  have hd2 := ys[j].toNat_lt
  have hxr := u8_xor_nat _ _ hd1 hd2
  have hlt := Fld.xor_lt hd1 hd2
  generalize xs[i].toNat = x at *
  generalize ys[j].toNat = y at *
  obtain ⟨z, hz⟩ : ∃ z, Hid (x ^^^ y = z) := ⟨_, rfl⟩
  rw [hz.out] at hxr hlt ⊢
  have HD := Lib.hid (fldDivF g 1 z (by decide) hlt W.drew hf)
  obtain ⟨d, hd⟩ : ∃ d, Hid (divA 1 z = d) := ⟨_, rfl⟩
  rw [hd.out] at HD ⊢
  obtain ⟨d1, d2⟩ := d
  unfold pairV at HD
  simp only at HD ⊢
  have hg3 := block_lt_of_cell h3
  have hg4 := block_lt_of_cell h4
  have hg5 := block_lt_of_cell h5
  have ha1 := block_lt_of_cell hc1
  have ha2 := block_lt_of_cell hc2
  go_enter Try.func45, Try.ntmps45
  go_wp2
  refine wp_region_held_drew (S := (fun wQq => Below (World.heap (W.drew)).size (W.drew) wQq)) (by kernel_rfl) (by exact Below.refl _ _) (fun _ => ?_)
  refine wpAnyH_take (i := 2) (v := ?_) rfl (by kernel_rfl) (by kernel_rfl) (by kernel_rfl) (fun _ _ _ h => h) (Or.inl ⟨by rfl, ?_⟩) (Below.refl _ _) ?_
  rotate_left
  · intro wS hSw
    go_simp
    try with_reducible rfl
  try simp only [List.getElem_toArray, List.getElem_cons_zero, List.getElem_cons_succ, Act.put, List.setIfInBounds_toArray, List.set_cons_zero, List.set_cons_succ]
  refine wpAnyH_take (i := 6) (v := ?_) rfl (by kernel_rfl) (by kernel_rfl) (by kernel_rfl) (fun _ _ _ h => h) (Or.inl ⟨by rfl, ?_⟩) (Below.refl _ _) ?_
  rotate_left
  · intro wS hSw
    go_simp
    try with_reducible rfl
  try simp only [List.getElem_toArray, List.getElem_cons_zero, List.getElem_cons_succ, Act.put, List.setIfInBounds_toArray, List.set_cons_zero, List.set_cons_succ]
  refine wpAnyH_take (i := 0) (v := ?_) rfl (by kernel_rfl) (by kernel_rfl) (by kernel_rfl) (fun _ _ _ h => h) (Or.inl ⟨by rfl, ?_⟩) (Below.refl _ _) ?_
  rotate_left
  · intro wS hSw
    have hcv := ((hSw.cell (p := ⟨g3, 0, none⟩) (by exact hg3)).trans h3)
    go_simp
    try with_reducible rfl
  try simp only [List.getElem_toArray, List.getElem_cons_zero, List.getElem_cons_succ, Act.put, List.setIfInBounds_toArray, List.set_cons_zero, List.set_cons_succ]
  refine wpAnyH_take (i := 1) (v := ?_) rfl (by kernel_rfl) (by kernel_rfl) (by kernel_rfl) (fun _ _ _ h => h) (Or.inl ⟨by rfl, ?_⟩) (Below.refl _ _) ?_
  rotate_left
  · intro wS hSw
    have hcv := ((hSw.cell (p := ⟨g4, 0, none⟩) (by exact hg4)).trans h4)
    go_simp
    try with_reducible rfl
  try simp only [List.getElem_toArray, List.getElem_cons_zero, List.getElem_cons_succ, Act.put, List.setIfInBounds_toArray, List.set_cons_zero, List.set_cons_succ]
  refine wpAnyH_take (i := 3) (v := ?_) rfl (by kernel_rfl) (by kernel_rfl) (by kernel_rfl) (fun _ _ _ h => h) (Or.inl ⟨by rfl, ?_⟩) (Below.refl _ _) ?_
  rotate_left
  · intro wS hSw
    go_simp
    try with_reducible rfl
  try simp only [List.getElem_toArray, List.getElem_cons_zero, List.getElem_cons_succ, Act.put, List.setIfInBounds_toArray, List.set_cons_zero, List.set_cons_succ]
  refine wpAnyH_take (i := 4) (v := ?_) rfl (by kernel_rfl) (by kernel_rfl) (by kernel_rfl) (fun _ _ _ h => h) (Or.inl ⟨by rfl, ?_⟩) (Below.refl _ _) ?_
  rotate_left
  · intro wS hSw
    have hcv := ((hSw.cell (p := a1.add i) (by exact ha1)).trans hc1)
    go_simp
    try with_reducible rfl
  try simp only [List.getElem_toArray, List.getElem_cons_zero, List.getElem_cons_succ, Act.put, List.setIfInBounds_toArray, List.set_cons_zero, List.set_cons_succ]
  refine wpAnyH_take (i := 5) (v := ?_) rfl (by kernel_rfl) (by kernel_rfl) (by kernel_rfl) (fun _ _ _ h => h) (Or.inl ⟨by rfl, ?_⟩) (Below.refl _ _) ?_
  rotate_left
  · intro wS hSw
    have hcv := ((hSw.cell (p := ⟨g5, 0, none⟩) (by exact hg5)).trans h5)
    go_simp
    try with_reducible rfl
  try simp only [List.getElem_toArray, List.getElem_cons_zero, List.getElem_cons_succ, Act.put, List.setIfInBounds_toArray, List.set_cons_zero, List.set_cons_succ]
  refine wpAnyH_take (i := 7) (v := ?_) rfl (by kernel_rfl) (by kernel_rfl) (by kernel_rfl) (fun _ _ _ h => h) (Or.inl ⟨by rfl, ?_⟩) (Below.refl _ _) ?_
  rotate_left
  · intro wS hSw
    go_simp
    try with_reducible rfl
  try simp only [List.getElem_toArray, List.getElem_cons_zero, List.getElem_cons_succ, Act.put, List.setIfInBounds_toArray, List.set_cons_zero, List.set_cons_succ]
  refine wpAnyH_take (i := 8) (v := ?_) rfl (by kernel_rfl) (by kernel_rfl) (by kernel_rfl) (fun _ _ _ h => h) (Or.inl ⟨by rfl, ?_⟩) (Below.refl _ _) ?_
  rotate_left
  · intro wS hSw
    have hcv := ((hSw.cell (p := a2.add j) (by exact ha2)).trans hc2)
    go_simp
    try with_reducible rfl
  try simp only [List.getElem_toArray, List.getElem_cons_zero, List.getElem_cons_succ, Act.put, List.setIfInBounds_toArray, List.set_cons_zero, List.set_cons_succ]
  refine wpAnyH_take (i := 9) (v := ?_) rfl (by kernel_rfl) (by kernel_rfl) (by kernel_rfl) (fun _ _ _ h => h) (Or.inl ⟨by rfl, ?_⟩) (Below.refl _ _) ?_
  rotate_left
  · intro wS hSw
    go_simp
    try with_reducible rfl
  try simp only [List.getElem_toArray, List.getElem_cons_zero, List.getElem_cons_succ, Act.put, List.setIfInBounds_toArray, List.set_cons_zero, List.set_cons_succ]
  refine wpAnyH_ready (rs := [10]) (by kernel_rfl) (by simp) ?_
  refine AllReadyH.cons rfl (fun K hK => ?_) AllReadyH.nil
  go_simp
  refine HD.out.mono ?_
  rintro e w2 ⟨rfl, hb⟩
  refine hK.out _ _ hb (fun _ => ?_)
  clear hK K
  try simp only [List.getElem_toArray, List.getElem_cons_zero, List.getElem_cons_succ, Act.put, List.setIfInBounds_toArray, List.set_cons_zero, List.set_cons_succ]
  refine wpAnyH_strong (S2 := fun w' => Below (World.heap w2).size w2 w') (fun _ h => Below.via hb h) ?_
  refine wpAnyH_take (i := 11) (v := ?_) rfl (by kernel_rfl) (by kernel_rfl) (by kernel_rfl) (fun _ _ _ h => h) (Or.inl ⟨by rfl, ?_⟩) (Below.refl _ _) ?_
  rotate_left
  · intro wS hSw
    go_simp
    try with_reducible rfl
  try simp only [List.getElem_toArray, List.getElem_cons_zero, List.getElem_cons_succ, Act.put, List.setIfInBounds_toArray, List.set_cons_zero, List.set_cons_succ]
  refine wpAnyH_take (i := 12) (v := ?_) rfl (by kernel_rfl) (by kernel_rfl) (by kernel_rfl) (fun _ _ _ h => h) (Or.inl ⟨by rfl, ?_⟩) (Below.refl _ _) ?_
  rotate_left
  · intro wS hSw
    go_simp
    try with_reducible rfl
  try simp only [List.getElem_toArray, List.getElem_cons_zero, List.getElem_cons_succ, Act.put, List.setIfInBounds_toArray, List.set_cons_zero, List.set_cons_succ]
  refine wpAnyH_take (i := 13) (v := ?_) rfl (by kernel_rfl) (by kernel_rfl) (by kernel_rfl) (fun _ _ _ h => h) (Or.inl ⟨by rfl, ?_⟩) (Below.refl _ _) ?_
  rotate_left
  · intro wS hSw
    go_simp
    try with_reducible rfl
  try simp only [List.getElem_toArray, List.getElem_cons_zero, List.getElem_cons_succ, Act.put, List.setIfInBounds_toArray, List.set_cons_zero, List.set_cons_succ]
  refine wpAnyH_take (i := 14) (v := ?_) rfl (by kernel_rfl) (by kernel_rfl) (by kernel_rfl) (fun _ _ _ h => h) (Or.inl ⟨by rfl, ?_⟩) (Below.refl _ _) ?_
  rotate_left
  · intro wS hSw
    go_simp
    try with_reducible rfl
  try simp only [List.getElem_toArray, List.getElem_cons_zero, List.getElem_cons_succ, Act.put, List.setIfInBounds_toArray, List.set_cons_zero, List.set_cons_succ]
  refine wpAnyH_take (i := 15) (v := ?_) rfl (by kernel_rfl) (by kernel_rfl) (by kernel_rfl) (fun _ _ _ h => h) (Or.inl ⟨by rfl, ?_⟩) (Below.refl _ _) ?_
  rotate_left
  · intro wS hSw
    go_simp
    try with_reducible rfl
  try simp only [List.getElem_toArray, List.getElem_cons_zero, List.getElem_cons_succ, Act.put, List.setIfInBounds_toArray, List.set_cons_zero, List.set_cons_succ]
  refine wpAnyH_done (by kernel_rfl) ?_ _
  go_wp2
  go_ret
  exact ⟨rfl, (below_drewN (Below.refl W.heap.size W) 1).trans hb⟩
/-- A slice that lies apart from the field reads as it did. -/
theorem Stp.rd {w w' : World} {g B : Nat} (h : Stp g w w') {A : Option Addr} {vs : List Value} (hr : Rd w B A vs) (hB : B ≤ w.heap.size) (hg : ∀ ad, A = some ad → ad.block ≠ g) : Rd w' B A vs := fun hn => by
  obtain ⟨ad, rfl, hb, hc⟩ := hr hn
  refine ⟨ad, rfl, hb, fun j hj => (World.cell?_of_block ?_).trans (hc j hj)⟩
  rw [addr_add_block]
  exact h.oth _ (by omega) (hg ad rfl)
/-- What a call that makes a matrix answers: its numbers, in new memory. -/
def NewM (g : Nat) (r c : Nat) (bs : List UInt8) (w : World) (e : Ending) (w' : World) : Prop :=
  ∃ A k, e = .returned (.tuple #[.agg (mv r c A (r * c) k), .int .i64 0]) ∧ bs.length = r * c ∧ w'.ownsRow w.heap.size 5 1 (.slice A (r * c) k) (r * c) (bs.map bv) ∧ Stp g w w'
/-- That there is none. -/
def NoM (g : Nat) (err : Int) (w : World) (e : Ending) (w' : World) : Prop := e = .returned (.tuple #[.agg (mv 0 0 none 0 0), .int .i64 err]) ∧ Stp g w w'
theorem flat_two (a b : RowB) : flat [a, b] = a.bs ++ b.bs := by simp [flat]
/-- Cauchy's boxes. -/
structure CauW (w : World) (g : Nat) (A1 A2 : Option Addr) (n1 n2 c1 c2 : Nat) (wa : World) : Prop where
  b3 : Blk wa w.heap.size 27 #[.pointer (some ⟨g, 0, none⟩)]
  b4 : Blk wa (w.heap.size + 1) 22 #[.slice A1 n1 c1]
  b5 : Blk wa (w.heap.size + 1 + 1) 22 #[.slice A2 n2 c2]
  b6 : Blk wa (w.heap.size + 1 + 1 + 1) 24 (mv 0 0 none 0 0)
theorem CauW.below {w wa wb : World} {g n1 n2 c1 c2 : Nat} {A1 A2 : Option Addr} (h : CauW w g A1 A2 n1 n2 c1 c2 wa) (hb : Below wa.heap.size wa wb) : CauW w g A1 A2 n1 n2 c1 c2 wb :=
  ⟨h.b3.below hb h.b3.lt, h.b4.below hb h.b4.lt, h.b5.below hb h.b5.lt, h.b6.below hb h.b6.lt⟩
theorem CauW.aft {w wa wb : World} {g n1 n2 c1 c2 : Nat} {A1 A2 : Option Addr} (h : CauW w g A1 A2 n1 n2 c1 c2 wa) (ha : Aft g wa wb) (hg : g < w.heap.size) : CauW w g A1 A2 n1 n2 c1 c2 wb :=
  ⟨ha.blk (by omega) h.b3, ha.blk (by omega) h.b4, ha.blk (by omega) h.b5, ha.blk (by omega) h.b6⟩
theorem CauW.new (w : World) (g : Nat) (A1 A2 : Option Addr) (n1 n2 c1 c2 : Nat) :
    CauW w g A1 A2 n1 n2 c1 c2 ((((w.alloc (.cells #[.pointer (some ⟨g, 0, none⟩)] 27)).alloc (.cells #[.slice A1 n1 c1] 22)).alloc (.cells #[.slice A2 n2 c2] 22)).alloc (.cells (mv 0 0 none 0 0) 24)) :=
  ⟨(((Blk.new w _ _).alloc _).alloc _).alloc _, by have := ((Blk.new (w.alloc (.cells #[.pointer (some ⟨g, 0, none⟩)] 27)) 22 #[.slice A1 n1 c1]).alloc (.cells #[.slice A2 n2 c2] 22)).alloc (.cells (mv 0 0 none 0 0) 24); simpa using this,
    by have := (Blk.new ((w.alloc (.cells #[.pointer (some ⟨g, 0, none⟩)] 27)).alloc (.cells #[.slice A1 n1 c1] 22)) 22 #[.slice A2 n2 c2]).alloc (.cells (mv 0 0 none 0 0) 24); simpa using this,
    by have := Blk.new (((w.alloc (.cells #[.pointer (some ⟨g, 0, none⟩)] 27)).alloc (.cells #[.slice A1 n1 c1] 22)).alloc (.cells #[.slice A2 n2 c2] 22)) 24 (mv 0 0 none 0 0); simpa using this⟩
theorem Aft.stp2 {w wa w1 : World} {g : Nat} (ha : Aft g wa w1) (hb : Below w.heap.size w wa) : Stp g w w1 :=
  ⟨ha.full, ha.os.trans hb.os, ha.tape.trans hb.tape, ha.output.trans hb.output, by rw [ha.size]; exact hb.size, fun k hk hkg => (ha.oth k hkg).trans (hb.block k hk)⟩
theorem Stp.via {w w1 w2 : World} {g : Nat} (h : Stp g w w1) (hb : Below w1.heap.size w1 w2) : Stp g w w2 :=
  ⟨h.full.below hb h.full.lt, hb.os.trans h.os, hb.tape.trans h.tape, hb.output.trans h.output, Nat.le_trans h.size hb.size, fun k hk hkg => (hb.block k (Nat.lt_of_lt_of_le hk h.size)).trans (h.oth k hk hkg)⟩
/-- A store into memory that is younger. -/
theorem Stp.setRow {w w1 : World} {g k : Nat} (h : Stp g w w1) (hk : w.heap.size ≤ k) (hkg : g ≠ k) (cs : Array Value) : Stp g w (w1.setRow k cs) :=
  ⟨h.full.rowFar hkg cs, h.os, h.tape, h.output, by rw [size_setRow]; exact h.size, fun j hj hjg => (setRow_other w1 k j cs (by omega)).trans (h.oth j hj hjg)⟩
theorem own_lowerB {w : World} {base b : Nat} {e : TypeId} {v : Value} {n : Nat} {xs : List Value} (h : w.ownsRow b e 1 v n xs) (hb : base ≤ b) : w.ownsRow base e 1 v n xs := by
  refine ⟨h.1, ?_⟩
  rcases h.2 with h0 | ⟨g, cap, cur, hv, h1, h2⟩
  · exact .inl h0
  · exact .inr ⟨g, cap, cur, hv, by omega, h2⟩
set_option maxHeartbeats 1600000 in
theorem matCauchy (g : Nat) (A1 A2 : Option Addr) (n1 n2 c1 c2 : Nat) (xs ys : List UInt8) (w : World) (h : Fld w g) (B : Nat) (hB : B ≤ w.heap.size) (hx : Rd w B A1 (xs.map bv)) (hy : Rd w B A2 (ys.map bv)) (hxg : ∀ ad, A1 = some ad → ad.block ≠ g) (hyg : ∀ ad, A2 = some ad → ad.block ≠ g)
    (hn1 : xs.length = n1) (hn2 : ys.length = n2) (hc1 : n1 ≤ c1) (hc2 : n2 ≤ c2) (hm1 : c1 ≤ maxLen) (hm2 : c2 ≤ maxLen) (h1 : 1 ≤ n1 ∧ n1 ≤ 255) (h2 : 1 ≤ n2 ∧ n2 ≤ 255) (hnd : (xs ++ ys).Nodup) :
    Calls Try.prog 28 #[.pointer (some ⟨g, 0, none⟩), .slice A1 n1 c1, .slice A2 n2 c2] w (NewM g n1 n2 (tabN n2 (cauV xs ys) (n1 * n2)) w) := by
  have hz : Below w.heap.size w ((((w.alloc (.cells #[.pointer (some ⟨g, 0, none⟩)] 27)).alloc (.cells #[.slice A1 n1 c1] 22)).alloc (.cells #[.slice A2 n2 c2] 22)).alloc (.cells (mv 0 0 none 0 0) 24)) := ((((Below.refl _ _).alloc (Nat.le_refl _) _).alloc (by simp) _).alloc (by simp; omega) _).alloc (by simp; omega) _
  have hcw := CauW.new w g A1 A2 n1 n2 c1 c2
  have hfa : Fld ((((w.alloc (.cells #[.pointer (some ⟨g, 0, none⟩)] 27)).alloc (.cells #[.slice A1 n1 c1] 22)).alloc (.cells #[.slice A2 n2 c2] 22)).alloc (.cells (mv 0 0 none 0 0) 24)) g := by
    rcases h with h | h
    · exact .inl (h.below hz h.lt)
    · exact .inr (h.below hz h.lt)
  have hgl := h.lt
  have hw1 : wi (n1 : Int) = true := wi_true.2 (by omega)
  have hw2 : wi (n2 : Int) = true := wi_true.2 (by omega)
  have HW1 := Lib.hid (fun W => matWithin (n1 : Int) W)
  have HW2 := Lib.hid (fun W => matWithin (n2 : Int) W)
  rw [hw1] at HW1
  rw [hw2] at HW2
  have HX := Lib.hid hx
  have HY := Lib.hid hy
  have HN1 := Lib.hid hn1
  have HN2 := Lib.hid hn2
  have HGL := Lib.hid hgl
  clear h hw1 hw2 hx hy hn1 hn2 hgl
  go_enter Try.func28, Try.ntmps28
  go_wp2_with fail
  refine (matNobody g _ hfa).mono ?_
  rintro e w1 ⟨rfl, ha⟩
  have hs1 := ha.stp2 hz
  have hcw1 := hcw.aft ha HGL.out
  clear ha hcw hz hfa
  have hc3 := hcw1.b3.cell 0
  have hc4 := hcw1.b4.cell 0
  have hc5 := hcw1.b5.cell 0
  simp only [List.getElem?_toArray, List.getElem?_cons_zero] at hc3 hc4 hc5
  have hlt6 := hcw1.b6.lt
  have hlt5 := hcw1.b5.lt
  have hlt4 := hcw1.b4.lt
  have HS1 := Lib.hid hs1
  have HCW1 := Lib.hid hcw1
  clear hs1 hcw1
  go_wp2_with (first | (go_at_call 41; first | (refine (HW1.out _).mono ?_; rintro e w' ⟨rfl, rfl⟩) | (refine (HW2.out _).mono ?_; rintro e w' ⟨rfl, rfl⟩)))
  have hal : Below w'.heap.size w' (w'.alloc (.cells #[.slice A1 n1 c1, .slice A2 n2 c2] 22)) := (Below.refl _ _).alloc (Nat.le_refl _) _
  have hX1 := (HS1.out.rd HX.out hB hxg).more (Nat.le_trans hB HS1.out.size)
  have hY1 := (HS1.out.rd HY.out hB hyg).more (Nat.le_trans hB HS1.out.size)
  refine (matTwice [⟨A1, n1, c1, xs⟩, ⟨A2, n2, c2, ys⟩] _ (some ⟨w'.heap.size, 0, none⟩) 2 2 _ (Rd.new w' _ _ _ rfl) (RowsAt.cons ⟨(hX1.below hal).more (by simp), HN1.out, hc1, hm1⟩ (RowsAt.cons ⟨(hY1.below hal).more (by simp), HN2.out, hc2, hm2⟩ RowsAt.nil)) (by simp) rfl (by decide) (by intro r hr; simp at hr; rcases hr with rfl | rfl <;> simp <;> omega)).mono ?_
  rintro e w2 ⟨⟨x, rfl, hxx⟩, hb2⟩
  have hb3 := hal.trans (hb2.mono hal.size)
  obtain rfl : x = false := hxx.2 (by rw [flat_two]; exact hnd)
  have HCW2 := Lib.hid (HCW1.out.below hb3)
  have HS2 := Lib.hid (HS1.out.via hb3)
  have HX2 := Lib.hid (hX1.below hb3)
  have HY2 := Lib.hid (hY1.below hb3)
  have hsz2 := hb3.size
  have hd3 := HCW2.out.b3.cell 0
  have hd4 := HCW2.out.b4.cell 0
  have hd5 := HCW2.out.b5.cell 0
  simp only [List.getElem?_toArray, List.getElem?_cons_zero] at hd3 hd4 hd5
  clear hal hX1 hY1 hxx hb2 hb3 HCW1 HS1 hc3 hc4 hc5 HW1 HW2
  go_wp2_with fail
  refine (matFilled 45 #[.pointer (some ⟨w.heap.size, 0, none⟩), .pointer (some ⟨w.heap.size + 1, 0, none⟩), .pointer (some ⟨w.heap.size + 1 + 1, 0, none⟩)] n1 n2 h1.2 h2.2 (cauV xs ys) w2 (fun a W => by go_simp) (fun i j hi hj W hW =>
    matCell g _ _ _ A1 A2 n1 n2 c1 c2 xs ys i j W (HS2.out.full.on hW) w'.heap.size (Nat.le_trans hsz2 hW.size) ((hW.cell (p := ⟨_, _, none⟩) HCW2.out.b3.lt).trans hd3) ((hW.cell (p := ⟨_, _, none⟩) HCW2.out.b4.lt).trans hd4) ((hW.cell (p := ⟨_, _, none⟩) HCW2.out.b5.lt).trans hd5) (HX2.out.below (hW.mono hsz2)) (HY2.out.below (hW.mono hsz2)) HN1.out HN2.out hi hj h1.2 h2.2)).mono ?_
  rintro e w3 ⟨A, c, rfl, ho, hb3⟩
  have hr6 := (HCW2.out.below hb3).b6
  have HS3 := Lib.hid (HS2.out.via hb3)
  have HO := Lib.hid ho
  have HSZ := Lib.hid HS2.out.size
  clear ho hb3
  go_wp2_with (refine wpList_store_row rfl 24 (.tmp 6) (.tmp 35) rfl (w.heap.size + 1 + 1 + 1) (mv n1 n2 A (n1 * n2) c) rfl rfl 24 (mv 0 0 none 0 0) hr6 matInfo3 rfl (mv_one _ _ _ _ _) ?_)
  refine bodyPost_ret (results_mat2 (g := w.heap.size + 1 + 1 + 1) (te := 24) (cs := mv n1 n2 A (n1 * n2) c) (fr := (0, 0)) rfl _ _ _ rfl (hr6.row _) Try.underlying24 rfl matInfo3) rfl ?_
  refine ⟨A, c, rfl, tabN_length _ _ _, own_setRow (own_lowerB HO.out HSZ.out) ?_ _, HS3.out.setRow (by omega) (by have := HGL.out; omega) _⟩
  intro he
  have := (HO.out.lt _ he).1
  omega
end Cib
