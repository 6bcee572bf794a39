/- Both maps: what a Set leaves of the rest; an act. -/
import Derived.Test.YthdanbpciifieaaBmpN
import Derived.Test.YthdanbpciifieaaBmpO
import Derived.Test.YthdanbpciifieaaBmpQ
set_option linter.unusedVariables false
set_option linter.unusedSimpArgs false
set_option maxRecDepth 40000
namespace Cib
open Go Go.RowKit Go.Proofs
/-- A block's type. -/
def Ty (w : World) (k : Nat) (t : TypeId) : Prop := ∃ cs fr, w.heap[k]? = some (.cells cs t fr)
/-- All blocks but those of some types stay as they are. -/
def Same (ts : List TypeId) (w w' : World) : Prop := ∀ k t, Ty w k t → t ∉ ts → w'.heap[k]? = w.heap[k]?
variable {w w' w'' : World} {base B g g2 n c n2 c2 : Nat} {bs : List Bool} {A A2 : Option Addr}
theorem Ty.lt {k t} (h : Ty w k t) : k < w.heap.size := by
  obtain ⟨cs, fr, h⟩ := h
  exact (Array.getElem?_eq_some_iff.1 h).1
theorem Ty.one {k t t'} (h : Ty w k t) (h' : Ty w k t') : t = t' := by
  obtain ⟨cs, fr, h⟩ := h
  obtain ⟨cs', fr', h'⟩ := h'
  rw [h] at h'
  injection h' with h'
  injection h'
theorem Same.refl (ts : List TypeId) (w : World) : Same ts w w := fun _ _ _ _ => rfl
theorem Same.trans {ts} (h : Same ts w w') (h' : Same ts w' w'') : Same ts w w'' := fun k t hk ht => by
  have e := h k t hk ht
  obtain ⟨cs, fr, hk'⟩ := hk
  exact (h' k t ⟨cs, fr, e.trans hk'⟩ ht).trans e
theorem Same.below {ts} (h : Below w.heap.size w w') : Same ts w w' := fun k t hk _ => h.block k hk.lt
theorem Same.more {ts us : List TypeId} (h : Same ts w w') (hs : ∀ t ∈ ts, t ∈ us) : Same us w w' := fun k t hk ht => h k t hk fun h' => ht (hs t h')
theorem Same.drewN {ts} (h : Same ts w w') (q : Nat) : Same ts w (w'.drewN q) := h
theorem own_block {b k n c : Nat} {e : TypeId} {o : Nat} {s} {xs : List Value} (h : w.ownsRow b e 1 (.slice (some ⟨k, o, s⟩) n c) n xs) : Ty w k e := by
  rcases h.2 with ⟨h0, _⟩ | ⟨g, cap, cur, hv, _, h2, _⟩
  · cases h0
  · injection hv with e1
    injection e1 with e1
    injection e1 with e1
    subst e1
    exact ⟨_, _, h2⟩
theorem Blk.ty {k t cs} (h : Blk w k t cs) : Ty w k t := ⟨_, _, h⟩
theorem Blk.same {k t cs ts} (h : Blk w k t cs) (hs : Same ts w w') (ht : t ∉ ts) : Blk w' k t cs := (hs k t h.ty ht).trans h
theorem own_same {b : Nat} {e : TypeId} {v : Value} {n : Nat} {xs : List Value} {ts} (h : w.ownsRow b e 1 v n xs) (hs : Same ts w w') (ht : e ∉ ts) : w'.ownsRow b e 1 v n xs := by
  refine ⟨h.1, ?_⟩
  rcases h.2 with h0 | ⟨g, cap, cur, hv, h1, h2, h3⟩
  · exact .inl h0
  · exact .inr ⟨g, cap, cur, hv, h1, (hs g e ⟨_, _, h2⟩ ht).trans h2, h3⟩
theorem Mp.same {ts} (h : Mp w B g bs A c) (hs : Same ts w w') (h1 : 48 ∉ ts) (h2 : 50 ∉ ts) : Mp w' B g bs A c := ⟨h.blk.same hs h1, own_same h.own hs h2, h.n, h.hg⟩
theorem Rm.same {ts} (h : Rm w B g2 bs A2 n2 c2) (hs : Same ts w w') (h1 : 42 ∉ ts) (h2 : 3 ∉ ts) : Rm w' B g2 bs A2 n2 c2 := ⟨h.blk.same hs h1, own_same h.own hs h2, h.hn, h.len, h.hg⟩
theorem Mp.onlyWords (h : Mp w B g bs A c) (hk : ∀ k, k < w.heap.size → (∀ b, A = some ⟨b, 0, none⟩ → k ≠ b) → w'.heap[k]? = w.heap[k]?) : Same [50] w w' := fun k t ht hn => hk k ht.lt fun b e ek => by
  subst e
  subst ek
  have h1 : Ty w k 50 := own_block h.own
  exact hn (by rw [ht.one h1]; exact List.mem_singleton.2 rfl)
theorem Rm.onlyMap (h : Rm w B g2 bs A2 n2 c2) (hk : ∀ k, k < w.heap.size → k ≠ g2 → w'.heap[k]? = w.heap[k]?) : Same [42] w w' := fun k t ht hn => hk k ht.lt fun ek => by
  subst ek
  exact hn (by rw [ht.one h.blk.ty]; exact List.mem_singleton.2 rfl)
/-- The cells of an act's box. -/
def actC (kind at_ many : Int) : Array Value := #[.int .i64 kind, .int .i64 at_, .int .i64 many]
/-- What an act leaves: both maps say the same places. -/
def ActR (N B g g2 : Nat) (A : Option Addr) (c : Nat) (w : World) (e : Ending) (w' : World) : Prop :=
  e = .returned (.bool true) ∧ ∃ bs' A2' n2' c2', bs'.length = N ∧ Mp w' B g bs' A c ∧ Rm w' B g2 bs' A2' n2' c2' ∧ Below B w w' ∧ Same [42, 50] w w'
set_option maxHeartbeats 1000000 in
theorem lawActSet (hm : Mp w B g bs A c) (hx : Rm w B g2 bs A2 n2 c2) (hB : B ≤ w.heap.size) (kind at_ many : Int) (hk : kind = 0 ∨ kind = 1 ∨ kind = 2 ∨ kind = 3) :
    Calls Try.prog 17 #[.pointer (some ⟨g, 0, none⟩), .pointer (some ⟨g2, 0, none⟩), .agg (actC kind at_ many)] w (ActR bs.length B g g2 A c w) := by
  have hal : Below w.heap.size w (w.alloc (.cells (actC kind at_ many) 39)) := (Below.refl _ _).alloc (Nat.le_refl _) _
  have HM := Lib.hid (hm.below hal)
  have HX := Lib.hid (hx.below hal)
  have HBX := Lib.hid (Blk.new w 39 (actC kind at_ many))
  have HAL := Lib.hid hal
  have HSL := Lib.hid (Bmp.set_length bs at_)
  have HS1 : Hid (Same [42, 50] w (w.alloc (.cells (actC kind at_ many) 39))) := Same.below hal
  clear hm hx hal
  obtain ⟨on, hon⟩ : ∃ on, decide (kind < 3) = on := ⟨_, rfl⟩
  have HON := Lib.hid hon
  clear hon
  go_enter Try.func17, Try.ntmps17
  unfold actC at *
  rcases hk with rfl | rfl | rfl | rfl
  all_goals
    first | (obtain rfl : true = on := HON.out) | (obtain rfl : false = on := HON.out)
    clear HON
    go_upto_region 6 with fail
    obtain ⟨gb, hgb⟩ : ∃ gb, w.heap.size = gb := ⟨_, rfl⟩
    rw [hgb] at HBX
    simp only [hgb]
    generalize hw1 : w.alloc _ = w1 at *
    clear hw1 hgb
    refine wp_region_held_drew (S := (fun wQq => Blk wQq gb 39 _)) (by kernel_rfl) (HBX.out) (fun _ => ?_)
    refine wpAnyH_take (i := 0) (v := ?_) rfl (by kernel_rfl) (by kernel_rfl) (by kernel_rfl) (fun _ _ _ h => h) (Or.inl ⟨by rfl, ?_⟩) (HBX.out) ?_
    rotate_left
    · intro wS hSw
      go_simp
      try with_reducible rfl
    try simp only [List.getElem_toArray, List.getElem_cons_zero, List.getElem_cons_succ, Act.put, List.setIfInBounds_toArray, List.set_cons_zero, List.set_cons_succ]
    refine wpAnyH_take (i := 1) (v := ?_) rfl (by kernel_rfl) (by kernel_rfl) (by kernel_rfl) (fun _ _ _ h => h) (Or.inl ⟨by rfl, ?_⟩) (HBX.out) ?_
    rotate_left
    · intro wS hSw
      go_simp
      try with_reducible rfl
    try simp only [List.getElem_toArray, List.getElem_cons_zero, List.getElem_cons_succ, Act.put, List.setIfInBounds_toArray, List.set_cons_zero, List.set_cons_succ]
    refine wpAnyH_take (i := 3) (v := ?_) rfl (by kernel_rfl) (by kernel_rfl) (by kernel_rfl) (fun _ _ _ h => h) (Or.inl ⟨by rfl, ?_⟩) (HBX.out) ?_
    rotate_left
    · intro wS hSw
      go_simp
      try with_reducible rfl
    try simp only [List.getElem_toArray, List.getElem_cons_zero, List.getElem_cons_succ, Act.put, List.setIfInBounds_toArray, List.set_cons_zero, List.set_cons_succ]
    refine wpAnyH_take (i := 7) (v := ?_) rfl (by kernel_rfl) (by kernel_rfl) (by kernel_rfl) (fun _ _ _ h => h) (Or.inl ⟨by rfl, ?_⟩) (HBX.out) ?_
    rotate_left
    · intro wS hSw
      go_simp
      try with_reducible rfl
    try simp only [List.getElem_toArray, List.getElem_cons_zero, List.getElem_cons_succ, Act.put, List.setIfInBounds_toArray, List.set_cons_zero, List.set_cons_succ]
    refine wpAnyH_take (i := 8) (v := ?_) rfl (by kernel_rfl) (by kernel_rfl) (by kernel_rfl) (fun _ _ _ h => h) (Or.inl ⟨by rfl, ?_⟩) (HBX.out) ?_
    rotate_left
    · intro wS hSw
      go_simp
      try with_reducible rfl
    try simp only [List.getElem_toArray, List.getElem_cons_zero, List.getElem_cons_succ, Act.put, List.setIfInBounds_toArray, List.set_cons_zero, List.set_cons_succ]
    refine wpAnyH_take (i := 10) (v := ?_) rfl (by kernel_rfl) (by kernel_rfl) (by kernel_rfl) (fun _ _ _ h => h) (Or.inl ⟨by rfl, ?_⟩) (HBX.out) ?_
    rotate_left
    · intro wS hSw
      go_simp
      try with_reducible rfl
    try simp only [List.getElem_toArray, List.getElem_cons_zero, List.getElem_cons_succ, Act.put, List.setIfInBounds_toArray, List.set_cons_zero, List.set_cons_succ]
    refine wpAnyH_take (i := 2) (v := ?_) rfl (by kernel_rfl) (by kernel_rfl) (by kernel_rfl) (fun _ _ _ h => h) (Or.inl ⟨by rfl, ?_⟩) (HBX.out) ?_
    rotate_left
    · intro wS hSw
      have hcv := hSw.cell 1
      go_simp
      try with_reducible rfl
    try simp only [List.getElem_toArray, List.getElem_cons_zero, List.getElem_cons_succ, Act.put, List.setIfInBounds_toArray, List.set_cons_zero, List.set_cons_succ]
    refine wpAnyH_take (i := 4) (v := ?_) rfl (by kernel_rfl) (by kernel_rfl) (by kernel_rfl) (fun _ _ _ h => h) (Or.inl ⟨by rfl, ?_⟩) (HBX.out) ?_
    rotate_left
    · intro wS hSw
      have hcv := hSw.cell 0
      go_simp
      try with_reducible rfl
    try simp only [List.getElem_toArray, List.getElem_cons_zero, List.getElem_cons_succ, Act.put, List.setIfInBounds_toArray, List.set_cons_zero, List.set_cons_succ]
    refine wpAnyH_take (i := 5) (v := ?_) rfl (by kernel_rfl) (by kernel_rfl) (by kernel_rfl) (fun _ _ _ h => h) (Or.inl ⟨by rfl, ?_⟩) (HBX.out) ?_
    rotate_left
    · intro wS hSw
      go_simp
      try with_reducible rfl
    try simp only [List.getElem_toArray, List.getElem_cons_zero, List.getElem_cons_succ, Act.put, List.setIfInBounds_toArray, List.set_cons_zero, List.set_cons_succ]
    refine wpAnyH_take (i := 9) (v := ?_) rfl (by kernel_rfl) (by kernel_rfl) (by kernel_rfl) (fun _ _ _ h => h) (Or.inl ⟨by rfl, ?_⟩) (HBX.out) ?_
    rotate_left
    · intro wS hSw
      have hcv := hSw.cell 1
      go_simp
      try with_reducible rfl
    try simp only [List.getElem_toArray, List.getElem_cons_zero, List.getElem_cons_succ, Act.put, List.setIfInBounds_toArray, List.set_cons_zero, List.set_cons_succ]
    refine wpAnyH_take (i := 11) (v := ?_) rfl (by kernel_rfl) (by kernel_rfl) (by kernel_rfl) (fun _ _ _ h => h) (Or.inl ⟨by rfl, ?_⟩) (HBX.out) ?_
    rotate_left
    · intro wS hSw
      have hcv := hSw.cell 0
      go_simp
      try with_reducible rfl
    try simp only [List.getElem_toArray, List.getElem_cons_zero, List.getElem_cons_succ, Act.put, List.setIfInBounds_toArray, List.set_cons_zero, List.set_cons_succ]
    refine wpAnyH_take (i := 12) (v := ?_) rfl (by kernel_rfl) (by kernel_rfl) (by kernel_rfl) (fun _ _ _ h => h) (Or.inl ⟨by rfl, ?_⟩) (HBX.out) ?_
    rotate_left
    · intro wS hSw
      go_simp
      try with_reducible rfl
    try simp only [List.getElem_toArray, List.getElem_cons_zero, List.getElem_cons_succ, Act.put, List.setIfInBounds_toArray, List.set_cons_zero, List.set_cons_succ]
    refine wpAnyH_ready (rs := [6]) (by kernel_rfl) (by simp) ?_
    refine AllReadyH.cons rfl (fun K hK => ?_) AllReadyH.nil
    go_simp
    refine (bmSet (HM.out.drewN 1) at_ _).mono ?_
    rintro e w2 ⟨rfl, hM2, hb2, hk2⟩
    have HK1 := Lib.hid (Mp.onlyWords (HM.out.drewN 1) hk2)
    have HM2 := Lib.hid hM2
    have HB2 := Lib.hid hb2
    clear hk2 hM2 hb2
    refine hK.out _ _ (HBX.out.same HK1.out (by decide)) (fun _ => ?_)
    clear hK K
    try simp only [List.getElem_toArray, List.getElem_cons_zero, List.getElem_cons_succ, Act.put, List.setIfInBounds_toArray, List.set_cons_zero, List.set_cons_succ]
    refine wpAnyH_ready (rs := [13]) (by kernel_rfl) (by simp) ?_
    refine AllReadyH.cons rfl (fun K hK => ?_) AllReadyH.nil
    go_simp
    refine (refSet (Rm.same (w := w1) HX.out HK1.out (by decide) (by decide)) at_ _).mono ?_
    rintro e w3 ⟨rfl, ⟨A3, n3, c3, hX3⟩, hb3, hk3⟩
    have HK2 := Lib.hid (Rm.onlyMap (Rm.same (w := w1) HX.out HK1.out (by decide) (by decide)) hk3)
    have HX3 := Lib.hid hX3
    have HB3 := Lib.hid hb3
    clear hk3 hX3 hb3
    refine hK.out _ _ (Blk.same (HBX.out.same HK1.out (by decide)) HK2.out (by decide)) (fun _ => ?_)
    clear hK K
    try simp only [List.getElem_toArray, List.getElem_cons_zero, List.getElem_cons_succ, Act.put, List.setIfInBounds_toArray, List.set_cons_zero, List.set_cons_succ]
    refine wpAnyH_take (i := 14) (v := ?_) rfl (by kernel_rfl) (by kernel_rfl) (by kernel_rfl) (fun _ _ _ h => h) (Or.inl ⟨by rfl, ?_⟩) (Blk.same (HBX.out.same HK1.out (by decide)) HK2.out (by decide)) ?_
    rotate_left
    · intro wS hSw
      go_simp
      try with_reducible rfl
    try simp only [List.getElem_toArray, List.getElem_cons_zero, List.getElem_cons_succ, Act.put, List.setIfInBounds_toArray, List.set_cons_zero, List.set_cons_succ]
    refine wpAnyH_take (i := 15) (v := ?_) rfl (by kernel_rfl) (by kernel_rfl) (by kernel_rfl) (fun _ _ _ h => h) (Or.inl ⟨by rfl, ?_⟩) (Blk.same (HBX.out.same HK1.out (by decide)) HK2.out (by decide)) ?_
    rotate_left
    · intro wS hSw
      go_simp
      try with_reducible rfl
    try simp only [List.getElem_toArray, List.getElem_cons_zero, List.getElem_cons_succ, Act.put, List.setIfInBounds_toArray, List.set_cons_zero, List.set_cons_succ]
    refine wpAnyH_done (by kernel_rfl) ?_ _
    go_wp2
    go_ret
    refine ⟨rfl, _, A3, n3, c3, HSL.out _, HM2.out.same HK2.out (by decide) (by decide), HX3.out, ?_, ?_⟩
    · exact ((below_drewN (HAL.out.mono hB) 1).trans HB2.out).trans HB3.out
    · exact (Same.trans (Same.drewN HS1.out 1) (HK1.out.more (by decide))).trans (HK2.out.more (by decide))
end Cib
