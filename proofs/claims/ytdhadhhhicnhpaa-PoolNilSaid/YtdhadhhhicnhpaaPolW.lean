/- A pool in memory: what stays; none, New, Free, Limbo. -/
import Derived.Test.YtdhadhhhicnhpaaBmpO
import Derived.Test.YtdhadhhhicnhpaaBmpQ
import Derived.Test.YtdhadhhhicnhpaaTy
import Derived.Test.YtdhadhhhicnhpaaReg
set_option linter.unusedVariables false
set_option linter.unusedSimpArgs false
set_option maxRecDepth 20000
namespace Cib
open Go Go.RowKit Go.Proofs
/-- Where a pool's parts lie. -/
structure PlP where
  ep : Nat
  cnt : Nat
  go : Nat
  gl : Nat
  bo : Nat
  bl : Nat
  co : Nat
  cl : Nat
def PlP.cells (x : PlP) (f : Nat) : Array Value := #[.int .u64 (x.ep : Int), .int .i64 (x.cnt : Int), .int .i64 (f : Int), .pointer (some ⟨x.go, 0, none⟩), .pointer (some ⟨x.gl, 0, none⟩)]
/-- A pool that was made: which places are out (taken, or in limbo), which are in limbo. -/
structure Pl (w : World) (B g f : Nat) (x : PlP) (O L : List Bool) : Prop where
  blk : Blk w g 50 (x.cells f)
  mo : Mp w B x.go O (some ⟨x.bo, 0, none⟩) x.co
  ml : Mp w B x.gl L (some ⟨x.bl, 0, none⟩) x.cl
  ne : x.bo ≠ x.bl
  len : L.length = O.length
  pos : 1 ≤ O.length
  fits : f + O.length ≤ 600
  many : O.length ≤ 400
  hg : B ≤ g
section
variable {w w' : World} {B g f : Nat} {x : PlP} {O L : List Bool}
theorem Mp.same {b0 go co : Nat} {bs : List Bool} {A : Option Addr} {ts} (h : Mp w b0 go bs A co) (hs : Same ts w w') (h1 : 62 ∉ ts) (h2 : 28 ∉ ts) : Mp w' b0 go bs A co := ⟨h.blk.same hs h1, own_same h.own hs h2, h.n, h.hg⟩
theorem Mp.onlyWords {b0 go co : Nat} {bs : List Bool} {A : Option Addr} (h : Mp w b0 go bs A co) (hk : ∀ k, k < w.heap.size → (∀ b, A = some ⟨b, 0, none⟩ → k ≠ b) → w'.heap[k]? = w.heap[k]?) : Same [28] w w' := fun k t ht hn => hk k ht.lt fun b e ek => by
  subst e
  subst ek
  have h1 : Ty w k 28 := own_block h.own
  exact hn (by rw [ht.one h1]; exact List.mem_singleton.2 rfl)
/-- What a store into another map's words leaves of a map. -/
theorem Mp.apart {b0 go co b1 b2 : Nat} {bs : List Bool} (h : Mp w b0 go bs (some ⟨b1, 0, none⟩) co) (hs : Same [28] w w') (hk : ∀ k, k < w.heap.size → k ≠ b2 → w'.heap[k]? = w.heap[k]?) (hne : b1 ≠ b2) : Mp w' b0 go bs (some ⟨b1, 0, none⟩) co := by
  refine ⟨h.blk.same hs (by decide), ?_, h.n, h.hg⟩
  refine ⟨h.own.1, ?_⟩
  rcases h.own.2 with h0 | ⟨g, cap, cur, hv, h1, h2, h3⟩
  · exact .inl h0
  · refine .inr ⟨g, cap, cur, hv, h1, ?_, h3⟩
    injection hv with e1
    injection e1 with e1
    injection e1 with e1
    subst e1
    have hlt : b1 < w.heap.size := Blk.lt (t := 28) (cs := cur) h2
    exact (hk b1 hlt hne).trans h2
theorem Pl.below (h : Pl w B g f x O L) (hb : Below w.heap.size w w') : Pl w' B g f x O L :=
  ⟨h.blk.below hb h.blk.lt, h.mo.below hb, h.ml.below hb, h.ne, h.len, h.pos, h.fits, h.many, h.hg⟩
theorem Pl.alloc (h : Pl w B g f x O L) (o : Obj) : Pl (w.alloc o) B g f x O L := h.below ((Below.refl _ _).alloc (Nat.le_refl _) o)
theorem Pl.drewN (h : Pl w B g f x O L) (n : Nat) : Pl (w.drewN n) B g f x O L := ⟨h.blk, h.mo.drewN n, h.ml.drewN n, h.ne, h.len, h.pos, h.fits, h.many, h.hg⟩
theorem Pl.c0 (h : Pl w B g f x O L) : w.cell? ⟨g, 0, none⟩ = some (.int .u64 (x.ep : Int)) := h.blk.cell 0
theorem Pl.c1 (h : Pl w B g f x O L) : w.cell? ⟨g, 1, none⟩ = some (.int .i64 (x.cnt : Int)) := h.blk.cell 1
theorem Pl.c2 (h : Pl w B g f x O L) : w.cell? ⟨g, 2, none⟩ = some (.int .i64 (f : Int)) := h.blk.cell 2
theorem Pl.c3 (h : Pl w B g f x O L) : w.cell? ⟨g, 3, none⟩ = some (.pointer (some ⟨x.go, 0, none⟩)) := h.blk.cell 3
theorem Pl.c4 (h : Pl w B g f x O L) : w.cell? ⟨g, 4, none⟩ = some (.pointer (some ⟨x.gl, 0, none⟩)) := h.blk.cell 4
end
variable {w : World} {B g f : Nat} {x : PlP} {O L : List Bool}
theorem bset_in {bs : List Bool} {i : Nat} (h : i < bs.length) (on : Bool) : (Bmp.set bs (i : Int) on).2 = bs.set i on := by
  unfold Bmp.set
  by_cases hh : Bmp.has bs (i : Int) = on
  · rw [if_neg (fun e => e.2.2 hh)]
    rw [Bmp.has_in h] at hh
    rw [← hh]
    simp
  · rw [if_pos ⟨by omega, by omega, hh⟩]
    simp
/-- A place taken, or given back: Set of the map out. -/
theorem plSetO (h : Pl w B g f x O L) (i : Nat) (hi : i < O.length) (on : Bool) : Calls Try.prog 26 #[.pointer (some ⟨x.go, 0, none⟩), .int .i64 (i : Int), .bool on] w fun e w' =>
    (∃ r, e = .returned (.bool r)) ∧ Pl w' B g f x (O.set i on) L ∧ Below B w w' ∧ Same [28] w w' := by
  refine (bmSet h.mo (i : Int) on).mono ?_
  rintro e w' ⟨rfl, hm, hb, hk⟩
  rw [bset_in hi] at hm
  have hs := h.mo.onlyWords hk
  refine ⟨⟨_, rfl⟩, ⟨h.blk.same hs (by decide), hm, h.ml.apart hs (fun k hk1 hk2 => hk k hk1 (fun b e => by injection e with e; injection e with e; omega)) (Ne.symm h.ne), h.ne, by simpa using h.len, by simpa using h.pos, by simpa using h.fits, by simpa using h.many, h.hg⟩, hb, hs⟩
theorem plSetL (h : Pl w B g f x O L) (i : Nat) (hi : i < O.length) (on : Bool) : Calls Try.prog 26 #[.pointer (some ⟨x.gl, 0, none⟩), .int .i64 (i : Int), .bool on] w fun e w' =>
    (∃ r, e = .returned (.bool r)) ∧ Pl w' B g f x O (L.set i on) ∧ Below B w w' ∧ Same [28] w w' := by
  refine (bmSet h.ml (i : Int) on).mono ?_
  rintro e w' ⟨rfl, hm, hb, hk⟩
  rw [bset_in (by rw [h.len]; exact hi)] at hm
  have hs := h.ml.onlyWords hk
  refine ⟨⟨_, rfl⟩, ⟨h.blk.same hs (by decide), h.mo.apart hs (fun k hk1 hk2 => hk k hk1 (fun b e => by injection e with e; injection e with e; omega)) h.ne, hm, h.ne, by simpa using h.len, h.pos, h.fits, h.many, h.hg⟩, hb, hs⟩
theorem plNone (h : Pl w B g f x O L) : Calls Try.prog 24 #[.pointer (some ⟨g, 0, none⟩)] w fun e w' => e = .returned (.bool false) ∧ w' = w := by
  have h3 := h.c3
  clear h
  go_enter Try.func24, Try.ntmps24
  go_wp2
  go_ret
  exact ⟨rfl, rfl⟩
theorem plLimbo (h : Pl w B g f x O L) : Calls Try.prog 15 #[.pointer (some ⟨g, 0, none⟩)] w fun e w' => e = .returned (.int .i64 (L.count true : Int)) ∧ w' = w := by
  have h4 := h.c4
  have HN := Lib.hid (plNone h)
  have HC := Lib.hid (bmCount h.ml)
  clear h
  go_enter Try.func15, Try.ntmps15
  go_wp2_with (first | (go_at_call 24; refine HN.out.mono ?_; rintro e w' ⟨rfl, rfl⟩) | (go_at_call 33; refine HC.out.mono ?_; rintro e w' ⟨rfl, rfl⟩))
  go_ret
  exact ⟨rfl, rfl⟩
theorem plFree (h : Pl w B g f x O L) : Calls Try.prog 14 #[.pointer (some ⟨g, 0, none⟩)] w fun e w' => e = .returned (.int .i64 (((O.length : Nat) : Int) - (O.count true : Int))) ∧ ∃ q, w' = w.drewN q := by
  have h3 := h.c3
  have h40 := h.many
  have hcl : O.count true ≤ O.length := List.count_le_length ..
  have HN := Lib.hid (plNone h)
  have HL := Lib.hid fun q => bmLen (h.mo.drewN q)
  have HC := Lib.hid fun q => bmCount (h.mo.drewN q)
  clear h
  go_enter Try.func14, Try.ntmps14
  go_wp2_with (first | (go_at_call 24; refine HN.out.mono ?_; rintro e w' ⟨rfl, rfl⟩))
  have hwr : IntKind.i64.wrap (((O.length : Nat) : Int) - (O.count true : Int)) = ((O.length : Nat) : Int) - (O.count true : Int) := by
    rw [IntKind.wrap_i64]
    omega
  refine wp_region_held_drew (S := (fun wQq => wQq.cell? ⟨g, 3, none⟩ = some (.pointer (some ⟨x.go, 0, none⟩)))) (by kernel_rfl) (h3) (fun _ => ?_)
  refine wpAnyH_take (i := 0) (v := ?_) rfl (by kernel_rfl) (by kernel_rfl) (by kernel_rfl) (fun _ _ _ h => h) (Or.inl ⟨by rfl, ?_⟩) (h3) ?_
  rotate_left
  · intro wS hSw
    go_simp
    try with_reducible rfl
  try simp only [List.getElem_toArray, List.getElem_cons_zero, List.getElem_cons_succ, Act.put, List.setIfInBounds_toArray, List.set_cons_zero, List.set_cons_succ]
  refine wpAnyH_take (i := 1) (v := ?_) rfl (by kernel_rfl) (by kernel_rfl) (by kernel_rfl) (fun _ _ _ h => h) (Or.inl ⟨by rfl, ?_⟩) (h3) ?_
  rotate_left
  · intro wS hSw
    go_simp
    try with_reducible rfl
  try simp only [List.getElem_toArray, List.getElem_cons_zero, List.getElem_cons_succ, Act.put, List.setIfInBounds_toArray, List.set_cons_zero, List.set_cons_succ]
  refine wpAnyH_take (i := 2) (v := ?_) rfl (by kernel_rfl) (by kernel_rfl) (by kernel_rfl) (fun _ _ _ h => h) (Or.inl ⟨by rfl, ?_⟩) (h3) ?_
  rotate_left
  · intro wS hSw
    go_simp
    try with_reducible rfl
  try simp only [List.getElem_toArray, List.getElem_cons_zero, List.getElem_cons_succ, Act.put, List.setIfInBounds_toArray, List.set_cons_zero, List.set_cons_succ]
  refine wpAnyH_take (i := 5) (v := ?_) rfl (by kernel_rfl) (by kernel_rfl) (by kernel_rfl) (fun _ _ _ h => h) (Or.inl ⟨by rfl, ?_⟩) (h3) ?_
  rotate_left
  · intro wS hSw
    go_simp
    try with_reducible rfl
  try simp only [List.getElem_toArray, List.getElem_cons_zero, List.getElem_cons_succ, Act.put, List.setIfInBounds_toArray, List.set_cons_zero, List.set_cons_succ]
  refine wpAnyH_take (i := 6) (v := ?_) rfl (by kernel_rfl) (by kernel_rfl) (by kernel_rfl) (fun _ _ _ h => h) (Or.inl ⟨by rfl, ?_⟩) (h3) ?_
  rotate_left
  · intro wS hSw
    go_simp
    try with_reducible rfl
  try simp only [List.getElem_toArray, List.getElem_cons_zero, List.getElem_cons_succ, Act.put, List.setIfInBounds_toArray, List.set_cons_zero, List.set_cons_succ]
  refine wpAnyH_take (i := 7) (v := ?_) rfl (by kernel_rfl) (by kernel_rfl) (by kernel_rfl) (fun _ _ _ h => h) (Or.inl ⟨by rfl, ?_⟩) (h3) ?_
  rotate_left
  · intro wS hSw
    go_simp
    try with_reducible rfl
  try simp only [List.getElem_toArray, List.getElem_cons_zero, List.getElem_cons_succ, Act.put, List.setIfInBounds_toArray, List.set_cons_zero, List.set_cons_succ]
  refine wpAnyH_take (i := 3) (v := ?_) rfl (by kernel_rfl) (by kernel_rfl) (by kernel_rfl) (fun _ _ _ h => h) (Or.inl ⟨by rfl, ?_⟩) (h3) ?_
  rotate_left
  · intro wS hSw
    have hcv := hSw
    go_simp
    try with_reducible rfl
  try simp only [List.getElem_toArray, List.getElem_cons_zero, List.getElem_cons_succ, Act.put, List.setIfInBounds_toArray, List.set_cons_zero, List.set_cons_succ]
  refine wpAnyH_take (i := 8) (v := ?_) rfl (by kernel_rfl) (by kernel_rfl) (by kernel_rfl) (fun _ _ _ h => h) (Or.inl ⟨by rfl, ?_⟩) (h3) ?_
  rotate_left
  · intro wS hSw
    have hcv := hSw
    go_simp
    try with_reducible rfl
  try simp only [List.getElem_toArray, List.getElem_cons_zero, List.getElem_cons_succ, Act.put, List.setIfInBounds_toArray, List.set_cons_zero, List.set_cons_succ]
  refine wpAnyH_ready (rs := [4]) (by kernel_rfl) (by simp) ?_
  refine AllReadyH.cons rfl (fun K hK => ?_) AllReadyH.nil
  go_simp
  refine (HL.out 1).mono ?_
  rintro e w2 ⟨rfl, rfl⟩
  refine hK.out _ _ h3 (fun _ => ?_)
  clear hK K
  try simp only [List.getElem_toArray, List.getElem_cons_zero, List.getElem_cons_succ, Act.put, List.setIfInBounds_toArray, List.set_cons_zero, List.set_cons_succ]
  refine wpAnyH_ready (rs := [9]) (by kernel_rfl) (by simp) ?_
  refine AllReadyH.cons rfl (fun K hK => ?_) AllReadyH.nil
  go_simp
  refine (HC.out 1).mono ?_
  rintro e w2 ⟨rfl, rfl⟩
  refine hK.out _ _ h3 (fun _ => ?_)
  clear hK K
  try simp only [List.getElem_toArray, List.getElem_cons_zero, List.getElem_cons_succ, Act.put, List.setIfInBounds_toArray, List.set_cons_zero, List.set_cons_succ]
  refine wpAnyH_take (i := 10) (v := ?_) rfl (by kernel_rfl) (by kernel_rfl) (by kernel_rfl) (fun _ _ _ h => h) (Or.inl ⟨by rfl, ?_⟩) h3 ?_
  rotate_left
  · intro wS hSw
    go_simp
    try with_reducible rfl
  try simp only [List.getElem_toArray, List.getElem_cons_zero, List.getElem_cons_succ, Act.put, List.setIfInBounds_toArray, List.set_cons_zero, List.set_cons_succ]
  refine wpAnyH_take (i := 11) (v := ?_) rfl (by kernel_rfl) (by kernel_rfl) (by kernel_rfl) (fun _ _ _ h => h) (Or.inl ⟨by rfl, ?_⟩) h3 ?_
  rotate_left
  · intro wS hSw
    go_simp
    try with_reducible rfl
  try simp only [List.getElem_toArray, List.getElem_cons_zero, List.getElem_cons_succ, Act.put, List.setIfInBounds_toArray, List.set_cons_zero, List.set_cons_succ]
  refine wpAnyH_done (by kernel_rfl) ?_ _
  go_wp2
  go_ret
  exact ⟨rfl, _, rfl⟩
end Cib
