/- Least: the closure, and what the walk with it gathers. -/
import Derived.Test.YtdhadhhhicnhpaaBmpR
set_option linter.unusedVariables false
set_option linter.unusedSimpArgs false
set_option maxRecDepth 20000
namespace Cib
open Go Go.RowKit Go.Proofs
variable {base g : Nat} {bs : List Bool} {A : Option Addr} {c : Nat}
def iv (n : Nat) : Value := .int .i64 (n : Int)
theorem iv_one {l : List Nat} : ∀ u ∈ l.map iv, u.oneCell' = true := by
  intro u hu
  obtain ⟨r, _, rfl⟩ := List.mem_map.1 hu
  rfl
theorem infoInt : (Try.prog.info? 3).map (fun i => (i.zero, i.size, i.bytes)) = some (some (.int .i64 0), 1, 8) := by kernel_rfl
/-- What a call answers that makes a slice of numbers. -/
def NewI (L : List Nat) (w : World) (e : Ending) (w' : World) : Prop :=
  ∃ A n c, e = .returned (.slice A n c) ∧ L.length = n ∧ w'.ownsRow w.heap.size 3 1 (.slice A n c) n (L.map iv) ∧ Below w.heap.size w w'
structure LstC (w : World) (B gl gm : Nat) (L : List Nat) (many : Nat) (A : Option Addr) (c : Nat) : Prop where
  l : Blk w gl 27 #[.slice A L.length c]
  m : Blk w gm 3 #[.int .i64 (many : Int)]
  own : w.ownsRow B 3 1 (.slice A L.length c) L.length (L.map iv)
  hm : gm < B
  hl : gm < gl
theorem ownBlock_lt {w : World} {B : Nat} {e : TypeId} {v : Value} {n : Nat} {xs : List Value} (h : w.ownsRow B e 1 v n xs) {k : Nat} (hk : v.ownBlock = some k) : B ≤ k ∧ ∃ cur, w.heap[k]? = some (.cells cur e (0, 0)) := by
  rcases h.2 with ⟨rfl, _⟩ | ⟨g, cap, cur, rfl, h1, h2, _⟩
  · simp [Value.ownBlock] at hk
  · simp [Value.ownBlock] at hk
    subst hk
    exact ⟨h1, cur, h2⟩
theorem LstC.keepL {w w1 : World} {B gl gm many n i : Nat} {L : List Nat} {A : Option Addr} {c : Nat} (h : LstC w B gl gm L many A c) (hn : L.length = n)
    (hg : (w.alloc (.cells #[iv i] 3)).grownBy w1 (Value.slice A n c).ownBlock) : Blk w1 gl 27 #[.slice A n c] := by
  subst hn
  exact (hg.block gl (by have := h.l.lt; simp; omega) (fun e => by
    obtain ⟨_, cur, hc⟩ := ownBlock_lt h.own e.symm
    have := h.l
    unfold Blk at this
    rw [hc] at this
    injection this with this
    injection this with _ h3
    exact absurd h3 (by decide))).trans (h.l.alloc _)
theorem LstC.keepM {w w1 : World} {B gl gm many n i : Nat} {L : List Nat} {A : Option Addr} {c : Nat} (h : LstC w B gl gm L many A c) (hn : L.length = n)
    (hg : (w.alloc (.cells #[iv i] 3)).grownBy w1 (Value.slice A n c).ownBlock) : Blk w1 gm 3 #[.int .i64 (many : Int)] := by
  subst hn
  exact (hg.block gm (by have := h.m.lt; simp; omega) (fun e => by
    obtain ⟨hb, _⟩ := ownBlock_lt h.own e.symm
    have := h.hm
    omega)).trans (h.m.alloc _)
theorem LstC.push {w w1 : World} {B gl gm many n : Nat} {L : List Nat} {A A1 : Option Addr} {c c1 i : Nat} (h : LstC w B gl gm L many A c) (hn : L.length = n)
    (ho : w1.ownsRow B 3 1 (.slice A1 (n + 1) c1) (n + 1) (L.map iv ++ [iv i])) (hg : (w.alloc (.cells #[iv i] 3)).grownBy w1 (Value.slice A n c).ownBlock) :
    LstC (w1.setCell ⟨gl, 0, none⟩ (.slice A1 (n + 1) c1)) B gl gm (L ++ [i]) many A1 c1 := by
  have hl1 := h.keepL hn hg
  have hm1 := h.keepM hn hg
  subst hn
  refine ⟨?_, hm1.far (by have := h.hl; show gm ≠ gl; omega) _, ?_, h.hm, h.hl⟩
  · rw [List.length_append]
    exact hl1.set 0 _
  · rw [List.length_append, List.map_append]
    refine ⟨ho.1, ?_⟩
    rcases ho.2 with h0 | ⟨g', cap, cur, hv, h1, h2, h3⟩
    · exact .inl h0
    · refine .inr ⟨g', cap, cur, hv, h1, (heap_setCell_other w1 ⟨gl, 0, none⟩ g' _ (fun e => ?_)).trans h2, h3⟩
      have e' : g' = gl := e
      subst e'
      unfold Blk at hl1
      rw [h2] at hl1
      injection hl1 with hl1
      injection hl1 with _ h4
      exact absurd h4 (by decide)
theorem leastTaken (B gl gm many : Nat) (L : List Nat) (A : Option Addr) (c : Nat) (i : Int) (w : World) (h : LstC w B gl gm L many A c) (hm : L.length < many) :
    Calls Try.prog 39 #[.int .i64 i, .bool true, .pointer (some ⟨gl, 0, none⟩), .pointer (some ⟨gm, 0, none⟩)] w
      fun e w' => e = .returned (.bool true) ∧ w' = w := by
  have c1 := h.l.cell 0
  have c2 := h.m.cell 0
  clear h
  have hd : decide ((L.length : Int) < (many : Int)) = true := by simp; omega
  generalize L.length = n at *
  go_enter Try.func39, Try.ntmps39
  go_wp2
  go_ret
  exact ⟨rfl, rfl⟩
theorem leastFree (B gl gm many : Nat) (L : List Nat) (A : Option Addr) (c : Nat) (i : Nat) (w : World) (h : LstC w B gl gm L many A c) (hm : L.length < many) (hmm : many ≤ 65536) (hB : B ≤ w.heap.size) (hBl : B ≤ gl) :
    Calls Try.prog 39 #[.int .i64 (i : Int), .bool false, .pointer (some ⟨gl, 0, none⟩), .pointer (some ⟨gm, 0, none⟩)] w
      fun e w' => e = .returned (.bool (decide (L.length + 1 < many))) ∧ (∃ A' c', LstC w' B gl gm (L ++ [i]) many A' c') ∧ Below B w w' := by
  have c1 := h.l.cell 0
  have c2 := h.m.cell 0
  have f1 := h.l.frozen 0
  have HO := Lib.hid h.own
  have HH := Lib.hid h
  obtain ⟨i0, hi, hz0, hz1, hz2⟩ := info_parts infoInt
  have hd : decide ((L.length : Int) + 1 < (many : Int)) = decide (L.length + 1 < many) := by
    by_cases hx : L.length + 1 < many
    · rw [decide_eq_true hx, decide_eq_true (by omega)]
    · rw [decide_eq_false hx, decide_eq_false (by omega)]
  have hne : gl ≠ gm := by have := h.hl; omega
  obtain ⟨x, hx⟩ : ∃ x, decide (L.length + 1 < many) = x := ⟨_, rfl⟩
  rw [hx] at hd ⊢
  clear h hx
  obtain ⟨n, hn⟩ : ∃ n, Hid (L.length = n) := ⟨_, rfl⟩
  have hns : (L.map iv).length = n := by rw [List.length_map]; exact hn.out
  rw [hn.out] at c1 HO hd hm
  go_enter Try.func39, Try.ntmps39
  go_wp2_with (at_builtin; refine wpList_app _ rfl (.tmp 9) (.tmp 11) _ rfl B 3 i0 _ 8 Try.underlying27 hi hz0 hz1 hz2 rfl A n c (L.map iv) rfl (HO.out.alloc _) _ (some ⟨w.heap.size, 0, none⟩) 1 1 [iv i] rfl rfl (Rd.new w _ _ _ rfl) (iv_one (l := [i])) (by unfold maxLen; omega) (by omega) (by simp; omega) ?_; intro A1 c1' w1 ho1 hg1 hb1; have q0 := HH.out.keepL hn.out hg1; have q1 := q0.cell 0; have q2 := q0.frozen 0; have q3 := (HH.out.keepM hn.out hg1).cell 0; have HG := Lib.hid hg1; clear hg1 q0)
  go_ret
  exact ⟨rfl, ⟨A1, c1', HH.out.push hn.out ho1 HG.out⟩, (((Below.refl B w).alloc hB _).trans hb1).setCell hBl _⟩
theorem Mp.alloc {w : World} (h : Mp w base g bs A c) (o : Obj) : Mp (w.alloc o) base g bs A c := h.below ((Below.refl _ _).alloc (Nat.le_refl _) o)
theorem own_lower {w : World} {base b : Nat} {e : TypeId} {v : Value} {n : Nat} {xs : List Value} (h : w.ownsRow b e 1 v n xs) (hb : base ≤ b) : w.ownsRow base e 1 v n xs := by
  refine ⟨h.1, ?_⟩
  rcases h.2 with h0 | ⟨g, cap, cur, hv, h1, h2⟩
  · exact .inl h0
  · exact .inr ⟨g, cap, cur, hv, Nat.le_trans hb h1, h2⟩
theorem bmLeast {w : World} (h : Mp w base g bs A c) (many : Int) (hf : many ≤ 9223372036854775807) :
    Calls Try.prog 25 #[.pointer (some ⟨g, 0, none⟩), .int .i64 many] w fun e w' => NewI (Bmp.leastF bs many) w e w' := by
  have HM := Lib.hid (h.alloc (.cells #[.int .i64 many] 3))
  have hn := h.n
  have hcl : bs.count true ≤ bs.length := List.count_le_length ..
  have HLEN := Lib.hid (bmLen (HM.out.drewN 1))
  have HCNT := Lib.hid (bmCount (HM.out.drewN 1))
  have hb1 : Below w.heap.size w (w.alloc (.cells #[.int .i64 many] 3)) := (Below.refl _ _).alloc (Nat.le_refl _) _
  have hk1 := Blk.new w 3 #[.int .i64 many]
  by_cases hm : many < 1
  · have e : Bmp.leastF bs many = [] := if_pos (.inl hm)
    rw [e]
    clear h
    go_enter Try.func25, Try.ntmps25
    go_wp2_with fail
    generalize w.alloc (.cells #[.int .i64 many] 3) = w1 at *
    have HK := Lib.hid hk1
    refine wp_region_held_drew (S := (fun wQq => Below (World.heap (w1.drew)).size (w1.drew) wQq)) (by kernel_rfl) (by exact Below.refl _ _) (fun _ => ?_)
    refine wpAnyH_take (i := 0) (v := ?_) rfl (by kernel_rfl) (by kernel_rfl) (by kernel_rfl) (fun _ _ _ h => h) (Or.inl ⟨by rfl, ?_⟩) (Below.refl _ _) ?_
    rotate_left
    · intro wS hSw
      have hcv := ((hSw.cell (p := ⟨w.heap.size, 0, none⟩) (by exact HK.out.lt)).trans (HK.out.cell 0))
      go_simp
      try with_reducible rfl
    try simp only [List.getElem_toArray, List.getElem_cons_zero, List.getElem_cons_succ, Act.put, List.setIfInBounds_toArray, List.set_cons_zero, List.set_cons_succ]
    refine wpAnyH_take (i := 1) (v := ?_) rfl (by kernel_rfl) (by kernel_rfl) (by kernel_rfl) (fun _ _ _ h => h) (Or.inl ⟨by rfl, ?_⟩) (Below.refl _ _) ?_
    rotate_left
    · intro wS hSw
      go_simp
      try with_reducible rfl
    try simp only [List.getElem_toArray, List.getElem_cons_zero, List.getElem_cons_succ, Act.put, List.setIfInBounds_toArray, List.set_cons_zero, List.set_cons_succ]
    refine wpAnyH_take (i := 2) (v := ?_) rfl (by kernel_rfl) (by kernel_rfl) (by kernel_rfl) (fun _ _ _ h => h) (Or.inl ⟨by rfl, ?_⟩) (Below.refl _ _) ?_
    rotate_left
    · intro wS hSw
      go_simp
      try with_reducible rfl
    try simp only [List.getElem_toArray, List.getElem_cons_zero, List.getElem_cons_succ, Act.put, List.setIfInBounds_toArray, List.set_cons_zero, List.set_cons_succ]
    refine wpAnyH_take (i := 3) (v := undef) rfl (by kernel_rfl) (by kernel_rfl) (by kernel_rfl) (fun _ _ _ h => h) (Or.inr ⟨by rfl, rfl⟩) (Below.refl _ _) ?_
    try simp only [List.getElem_toArray, List.getElem_cons_zero, List.getElem_cons_succ, Act.put, List.setIfInBounds_toArray, List.set_cons_zero, List.set_cons_succ]
    refine wpAnyH_take (i := 4) (v := undef) rfl (by kernel_rfl) (by kernel_rfl) (by kernel_rfl) (fun _ _ _ h => h) (Or.inr ⟨by rfl, rfl⟩) (Below.refl _ _) ?_
    try simp only [List.getElem_toArray, List.getElem_cons_zero, List.getElem_cons_succ, Act.put, List.setIfInBounds_toArray, List.set_cons_zero, List.set_cons_succ]
    refine wpAnyH_take (i := 5) (v := undef) rfl (by kernel_rfl) (by kernel_rfl) (by kernel_rfl) (fun _ _ _ h => h) (Or.inr ⟨by rfl, rfl⟩) (Below.refl _ _) ?_
    try simp only [List.getElem_toArray, List.getElem_cons_zero, List.getElem_cons_succ, Act.put, List.setIfInBounds_toArray, List.set_cons_zero, List.set_cons_succ]
    refine wpAnyH_take (i := 6) (v := undef) rfl (by kernel_rfl) (by kernel_rfl) (by kernel_rfl) (fun _ _ _ h => h) (Or.inr ⟨by rfl, rfl⟩) (Below.refl _ _) ?_
    try simp only [List.getElem_toArray, List.getElem_cons_zero, List.getElem_cons_succ, Act.put, List.setIfInBounds_toArray, List.set_cons_zero, List.set_cons_succ]
    refine wpAnyH_take (i := 7) (v := undef) rfl (by kernel_rfl) (by kernel_rfl) (by kernel_rfl) (fun _ _ _ h => h) (Or.inr ⟨by rfl, rfl⟩) (Below.refl _ _) ?_
    try simp only [List.getElem_toArray, List.getElem_cons_zero, List.getElem_cons_succ, Act.put, List.setIfInBounds_toArray, List.set_cons_zero, List.set_cons_succ]
    refine wpAnyH_take (i := 8) (v := undef) rfl (by kernel_rfl) (by kernel_rfl) (by kernel_rfl) (fun _ _ _ h => h) (Or.inr ⟨by rfl, rfl⟩) (Below.refl _ _) ?_
    try simp only [List.getElem_toArray, List.getElem_cons_zero, List.getElem_cons_succ, Act.put, List.setIfInBounds_toArray, List.set_cons_zero, List.set_cons_succ]
    refine wpAnyH_take (i := 9) (v := undef) rfl (by kernel_rfl) (by kernel_rfl) (by kernel_rfl) (fun _ _ _ h => h) (Or.inr ⟨by rfl, rfl⟩) (Below.refl _ _) ?_
    try simp only [List.getElem_toArray, List.getElem_cons_zero, List.getElem_cons_succ, Act.put, List.setIfInBounds_toArray, List.set_cons_zero, List.set_cons_succ]
    refine wpAnyH_take (i := 10) (v := ?_) rfl (by kernel_rfl) (by kernel_rfl) (by kernel_rfl) (fun _ _ _ h => h) (Or.inl ⟨by rfl, ?_⟩) (Below.refl _ _) ?_
    rotate_left
    · intro wS hSw
      go_simp
      try with_reducible rfl
    try simp only [List.getElem_toArray, List.getElem_cons_zero, List.getElem_cons_succ, Act.put, List.setIfInBounds_toArray, List.set_cons_zero, List.set_cons_succ]
    refine wpAnyH_done (by kernel_rfl) ?_ _
    go_wp2
    go_ret
    exact ⟨none, 0, 0, rfl, rfl, World.ownsRow_nil _ _ _ _, below_drewN hb1 1⟩
  · obtain ⟨m, rfl⟩ : ∃ m : Nat, many = (m : Int) := ⟨many.toNat, by omega⟩
    have hm1 : 1 ≤ m := by omega
    have hnl : ¬ ((m : Int) < 1) := by omega
    have hwr0 : ∀ a b : Nat, b ≤ a → a ≤ 65536 → IntKind.i64.wrap ((a : Int) - (b : Int)) = (a : Int) - (b : Int) := fun a b h1 h2 => by
      rw [IntKind.wrap_i64]
      omega
    have e : Bmp.leastF bs m = if m > bs.length - bs.count true then [] else (Bmp.free bs 0).take m := by
      unfold Bmp.leastF
      rw [Int.toNat_natCast]
      by_cases hx : m > bs.length - bs.count true
      · rw [if_pos hx, if_pos (.inr (by omega))]
      · rw [if_neg hx, if_neg (by omega)]
    rw [e]
    obtain ⟨i0, hi, hz0, hz1, hz2⟩ := info_parts infoInt
    have HFL : Hid ((Bmp.free bs 0).length + bs.count true = bs.length) := Bmp.free_length bs 0
    have HBL : Hid (bs.length ≤ 65536) := hn
    obtain ⟨cnt, hbc⟩ : ∃ x, Hid (bs.count true = x) := ⟨_, rfl⟩
    obtain ⟨n, hbl⟩ : ∃ x, Hid (bs.length = x) := ⟨_, rfl⟩
    rw [hbc.out] at HCNT HFL hcl
    rw [hbl.out] at HLEN HFL hcl hn
    rw [hbc.out, hbl.out]
    obtain ⟨F, hF⟩ : ∃ F, Hid ((if m > n - cnt then [] else (Bmp.free bs 0).take m) = F) := ⟨_, rfl⟩
    rw [hF.out]
    clear h e hm
    go_enter Try.func25, Try.ntmps25
    go_wp2_with fail
    generalize w.alloc (.cells #[.int .i64 (m : Int)] 3) = w1 at *
    have HK := Lib.hid hk1
    have hwr := hwr0 n cnt hcl hn
    clear hwr0
    go_upto_region 1 with fail
    go_cut [16] (fun x wx => x = .bool (decide ((n : Int) - (cnt : Int) < (m : Int))) ∧ wx = w1.drewN 1)
    case first =>
      refine wp_region_held_drew (S := (fun wQq => Below (World.heap (w1.drew)).size (w1.drew) wQq)) (by kernel_rfl) (by exact Below.refl _ _) (fun _ => ?_)
      refine wpAnyH_take (i := 0) (v := ?_) rfl (by kernel_rfl) (by kernel_rfl) (by kernel_rfl) (fun _ _ _ h => h) (Or.inl ⟨by rfl, ?_⟩) (Below.refl _ _) ?_
      rotate_left
      · intro wS hSw
        have hcv := ((hSw.cell (p := ⟨w.heap.size, 0, none⟩) (by exact HK.out.lt)).trans (HK.out.cell 0))
        go_simp
        try with_reducible rfl
      try simp only [List.getElem_toArray, List.getElem_cons_zero, List.getElem_cons_succ, Act.put, List.setIfInBounds_toArray, List.set_cons_zero, List.set_cons_succ]
      refine wpAnyH_take (i := 1) (v := ?_) rfl (by kernel_rfl) (by kernel_rfl) (by kernel_rfl) (fun _ _ _ h => h) (Or.inl ⟨by rfl, ?_⟩) (Below.refl _ _) ?_
      rotate_left
      · intro wS hSw
        have hd1 : decide ((m : Int) < 1) = false := by simp; omega
        go_simp
        try rw [hd1]
        try with_reducible rfl
      try simp only [List.getElem_toArray, List.getElem_cons_zero, List.getElem_cons_succ, Act.put, List.setIfInBounds_toArray, List.set_cons_zero, List.set_cons_succ]
      refine wpAnyH_take (i := 2) (v := ?_) rfl (by kernel_rfl) (by kernel_rfl) (by kernel_rfl) (fun _ _ _ h => h) (Or.inl ⟨by rfl, ?_⟩) (Below.refl _ _) ?_
      rotate_left
      · intro wS hSw
        go_simp
        try with_reducible rfl
      try simp only [List.getElem_toArray, List.getElem_cons_zero, List.getElem_cons_succ, Act.put, List.setIfInBounds_toArray, List.set_cons_zero, List.set_cons_succ]
      refine wpAnyH_take (i := 4) (v := ?_) rfl (by kernel_rfl) (by kernel_rfl) (by kernel_rfl) (fun _ _ _ h => h) (Or.inl ⟨by rfl, ?_⟩) (Below.refl _ _) ?_
      rotate_left
      · intro wS hSw
        go_simp
        try with_reducible rfl
      try simp only [List.getElem_toArray, List.getElem_cons_zero, List.getElem_cons_succ, Act.put, List.setIfInBounds_toArray, List.set_cons_zero, List.set_cons_succ]
      refine wpAnyH_take (i := 6) (v := ?_) rfl (by kernel_rfl) (by kernel_rfl) (by kernel_rfl) (fun _ _ _ h => h) (Or.inl ⟨by rfl, ?_⟩) (Below.refl _ _) ?_
      rotate_left
      · intro wS hSw
        go_simp
        try with_reducible rfl
      try simp only [List.getElem_toArray, List.getElem_cons_zero, List.getElem_cons_succ, Act.put, List.setIfInBounds_toArray, List.set_cons_zero, List.set_cons_succ]
      refine wpAnyH_take (i := 3) (v := ?_) rfl (by kernel_rfl) (by kernel_rfl) (by kernel_rfl) (fun _ _ _ h => h) (Or.inl ⟨by rfl, ?_⟩) (Below.refl _ _) ?_
      rotate_left
      · intro wS hSw
        have hcv := ((hSw.cell (p := ⟨w.heap.size, 0, none⟩) (by exact HK.out.lt)).trans (HK.out.cell 0))
        go_simp
        try with_reducible rfl
      try simp only [List.getElem_toArray, List.getElem_cons_zero, List.getElem_cons_succ, Act.put, List.setIfInBounds_toArray, List.set_cons_zero, List.set_cons_succ]
      refine wpAnyH_ready (rs := [5]) (by kernel_rfl) (by simp) ?_
      refine AllReadyH.cons rfl (fun K hK => ?_) AllReadyH.nil
      go_simp
      refine HLEN.out.mono ?_
      rintro e w2 ⟨rfl, rfl⟩
      refine hK.out _ _ (Below.refl _ _) (fun _ => ?_)
      clear hK K
      try simp only [List.getElem_toArray, List.getElem_cons_zero, List.getElem_cons_succ, Act.put, List.setIfInBounds_toArray, List.set_cons_zero, List.set_cons_succ]
      refine wpAnyH_ready (rs := [7]) (by kernel_rfl) (by simp) ?_
      refine AllReadyH.cons rfl (fun K hK => ?_) AllReadyH.nil
      go_simp
      refine HCNT.out.mono ?_
      rintro e w2 ⟨rfl, rfl⟩
      refine hK.out _ _ (Below.refl _ _) (fun _ => ?_)
      clear hK K
      try simp only [List.getElem_toArray, List.getElem_cons_zero, List.getElem_cons_succ, Act.put, List.setIfInBounds_toArray, List.set_cons_zero, List.set_cons_succ]
      refine wpAnyH_take (i := 8) (v := ?_) rfl (by kernel_rfl) (by kernel_rfl) (by kernel_rfl) (fun _ _ _ h => h) (Or.inl ⟨by rfl, ?_⟩) (Below.refl _ _) ?_
      rotate_left
      · intro wS hSw
        go_simp
        try with_reducible rfl
      try simp only [List.getElem_toArray, List.getElem_cons_zero, List.getElem_cons_succ, Act.put, List.setIfInBounds_toArray, List.set_cons_zero, List.set_cons_succ]
      refine wpAnyH_take (i := 9) (v := ?_) rfl (by kernel_rfl) (by kernel_rfl) (by kernel_rfl) (fun _ _ _ h => h) (Or.inl ⟨by rfl, ?_⟩) (Below.refl _ _) ?_
      rotate_left
      · intro wS hSw
        go_simp
        try with_reducible rfl
      try simp only [List.getElem_toArray, List.getElem_cons_zero, List.getElem_cons_succ, Act.put, List.setIfInBounds_toArray, List.set_cons_zero, List.set_cons_succ]
      refine wpAnyH_take (i := 10) (v := ?_) rfl (by kernel_rfl) (by kernel_rfl) (by kernel_rfl) (fun _ _ _ h => h) (Or.inl ⟨by rfl, ?_⟩) (Below.refl _ _) ?_
      rotate_left
      · intro wS hSw
        go_simp
        try with_reducible rfl
      try simp only [List.getElem_toArray, List.getElem_cons_zero, List.getElem_cons_succ, Act.put, List.setIfInBounds_toArray, List.set_cons_zero, List.set_cons_succ]
      refine wpAnyH_done (by kernel_rfl) ?_ _
      go_wp2_with fail
      go_meet
      exact ⟨rfl, rfl⟩
    case rest =>
      obtain ⟨rfl, rfl⟩ := hcut
      have hbx := below_drewN hb1 1
      have HMX := Lib.hid (HM.out.drewN 1)
      have hkx : Blk (w1.drewN 1) w.heap.size 3 #[.int .i64 (m : Int)] := HK.out.drewN 1
      clear HM hk1 HK hb1 HLEN HCNT
      generalize w1.drewN 1 = w2 at *
      by_cases hx : m > n - cnt
      · have hd : decide ((n : Int) - (cnt : Int) < (m : Int)) = true := by simp; omega
        obtain rfl : F = [] := by rw [← hF.out, if_pos hx]
        clear hF
        go_wp2
        go_ret
        exact ⟨none, 0, 0, rfl, rfl, World.ownsRow_nil _ _ _ _, hbx⟩
      · have hd : decide ((n : Int) - (cnt : Int) < (m : Int)) = false := by simp; omega
        have HF : Hid (F = (Bmp.free bs 0).take m) := by (show _ = _; rw [← hF.out, if_neg hx])
        clear hF
        have hmk : ∀ W : World, (Instr.makeSlice 27 (.int .i64 0) (.int .i64 (m : Int))).run Try.prog W = .ok (.slice (some ⟨W.heap.size, 0, none⟩) 0 m) (W.alloc (.cells (madeCells #[.int .i64 0] m) 3)) := fun W => by
          have := run_make (P := Try.prog) W 27 3 i0 (.int .i64 0) Try.underlying27 hi hz0 .i64 .i64 0 (m : Int) (by omega) (by omega) (by rw [hz2]; omega) (by omega)
          rw [hz1, Nat.mul_one, Int.toNat_natCast] at this
          exact this
        have hkc := hkx.cell 0
        go_wp2_with fail
        have hgm := hkx.lt
        have hmle : m ≤ maxLen := by unfold maxLen; omega
        have k1 : LstC ((w2.alloc (.cells (madeCells #[.int .i64 0] m) 3)).alloc (.cells #[.slice (some ⟨w2.heap.size, 0, none⟩) 0 m] 27)) w2.heap.size (w2.heap.size + 1) w.heap.size [] m (some ⟨w2.heap.size, 0, none⟩) m :=
          ⟨by simpa using Blk.new (w2.alloc (.cells (madeCells #[.int .i64 0] m) 3)) 27 #[.slice (some ⟨w2.heap.size, 0, none⟩) 0 m],
            (hkx.alloc _).alloc _, (own_made w2 w2.heap.size 3 (.int .i64 0) 0 m (Nat.le_refl _) (Nat.zero_le _) hmle).alloc _, hgm, by omega⟩
        have hb4 : Below w2.heap.size w2 ((w2.alloc (.cells (madeCells #[.int .i64 0] m) 3)).alloc (.cells #[.slice (some ⟨w2.heap.size, 0, none⟩) 0 m] 27)) :=
          ((Below.refl _ _).alloc (Nat.le_refl _) _).alloc (by simp) _
        generalize ((w2.alloc (.cells (madeCells #[.int .i64 0] m) 3)).alloc (.cells #[.slice (some ⟨w2.heap.size, 0, none⟩) 0 m] 27)) = w4 at *
        have hnl' := hbl.out
        refine (walkLeast (base := base) (g := g) (bs := bs) (A := A) (c := c) (w2.heap.size + 1) w.heap.size
          (fun i W => ∃ L A' c', LstC W w2.heap.size (w2.heap.size + 1) w.heap.size L m A' c' ∧ L.length < m ∧ L ++ Bmp.free (bs.drop i) i = Bmp.free bs 0 ∧ Below w2.heap.size w2 W)
          (fun W => ∃ A' c', LstC W w2.heap.size (w2.heap.size + 1) w.heap.size F m A' c' ∧ Below w2.heap.size w2 W)
          ?_ ?_ ?_ 0 (by omega) w4 ⟨[], _, _, k1, hm1, rfl, hb4⟩).mono ?_
        · rintro i W ⟨L, A', c', _, _, _, hbW⟩
          exact HMX.out.below hbW
        · rintro i hi W ⟨L, A', c', hL, hlm, hfr, hbW⟩
          rw [Bmp.free_step bs hi] at hfr
          obtain ⟨b, hb⟩ : ∃ b, bs[i] = b := ⟨_, rfl⟩
          rw [hb] at hfr ⊢
          cases b
          · rw [if_neg (by decide)] at hfr
            refine (leastFree w2.heap.size _ _ m L A' c' i W hL hlm (by omega) hbW.size (by omega)).mono ?_
            rintro e W' ⟨rfl, ⟨A2, c2, hL2⟩, hb'⟩
            by_cases hlast : L.length + 1 < m
            · rw [decide_eq_true hlast]
              exact .inl ⟨rfl, L ++ [i], A2, c2, hL2, by simp; omega, by rw [List.append_assoc]; exact hfr, hbW.trans hb'⟩
            · rw [decide_eq_false hlast]
              have hFe : F = L ++ [i] := by
                rw [HF.out, ← hfr, show L ++ i :: Bmp.free (List.drop (i + 1) bs) (i + 1) = (L ++ [i]) ++ Bmp.free (List.drop (i + 1) bs) (i + 1) from by simp]
                rw [List.take_append_of_le_length (by simp; omega), List.take_of_length_le (by simp; omega)]
              rw [← hFe] at hL2
              exact .inr ⟨rfl, A2, c2, hL2, hbW.trans hb'⟩
          · rw [if_pos rfl] at hfr
            refine (leastTaken w2.heap.size _ _ m L A' c' i W hL hlm).mono ?_
            rintro e W' ⟨rfl, rfl⟩
            exact .inl ⟨rfl, L, A', c', hL, hlm, hfr, hbW⟩
        · rintro i hi hall W ⟨L, A', c', hL, hlm, hfr, hbW⟩
          rw [Bmp.free_trues bs i 64 hi hall] at hfr
          refine (leastTaken w2.heap.size _ _ m L A' c' ((i : Int) + 63) W hL hlm).mono ?_
          rintro e W' ⟨rfl, rfl⟩
          exact .inl ⟨rfl, L, A', c', hL, hlm, hfr, hbW⟩
        · rintro e W' ⟨rfl, hD⟩
          have hfin : ∃ A' c', LstC W' w2.heap.size (w2.heap.size + 1) w.heap.size F m A' c' ∧ Below w2.heap.size w2 W' := by
            rcases hD with hD | ⟨i, hi, L, A', c', hL, hlm, hfr, hbW⟩
            · exact hD
            · rw [Bmp.free_end bs hi, List.append_nil] at hfr
              have := HFL.out
              rw [← hfr] at this
              omega
          obtain ⟨A', c', hL, hbW⟩ := hfin
          have c3 := hL.l.cell 0
          have HLL := Lib.hid hL
          have HB := Lib.hid (hbx.via hbW)
          have HLE := Lib.hid hbx.size
          clear hD k1 hb4 hL hbW hbx hmk HMX
          go_wp2
          go_ret
          exact ⟨A', F.length, c', rfl, rfl, own_lower HLL.out.own HLE.out, HB.out⟩
end Cib
