/- What ones, Count, New, Copy do. -/
import Derived.Test.YtdhadhhhicnhpaaBmpW
set_option linter.unusedVariables false
set_option linter.unusedSimpArgs false
set_option maxRecDepth 20000
namespace Cib
open Go Go.RowKit Go.Proofs
variable {w : World} {base g : Nat} {bs : List Bool} {A : Option Addr} {c : Nat}
theorem bmOnes (W : Nat) (hW : W < 18446744073709551616) (w : World) : Calls Try.prog 44 #[.int .u64 (W : Int)] w fun e w' => e = .returned (.int .i64 (Bmp.popc W : Int)) ∧ w' = w := by
  have hle := Bmp.popc_le 64 W hW
  go_enter Try.func44, Try.ntmps44
  go_wp2
  go_loopw [0, 3] (fun x n wr => ∃ v m : Nat, x = .int .u64 v ∧ n = .int .i64 m ∧ Hid (m + Bmp.popc v = Bmp.popc W) ∧ v < 18446744073709551616 ∧ wr = w) (fun x _ _ => (intOf x).toNat)
  case atStart => exact ⟨W, 0, rfl, rfl, by (show _ = _; omega), hW, rfl⟩
  case round =>
    obtain ⟨v, m, rfl, rfl, hm, hv, rfl⟩ := hrel
    by_cases h0 : v = 0
    · subst h0
      have hme : m = Bmp.popc W := by have := hm.out; rw [Bmp.popc_zero] at this; omega
      subst hme
      go_wp2
      go_ret
      exact ⟨rfl, rfl⟩
    · obtain ⟨h1, h2⟩ := Bmp.popc_and v h0
      have hand := u64_and_nat v (v - 1) hv (by omega)
      rw [show ((v - 1 : Nat) : Int) = (v : Int) - 1 from by omega] at hand
      have hm' := hm.out
      generalize v &&& (v - 1) = u at *
      obtain ⟨P, hP⟩ : ∃ P, Bmp.popc v = P := ⟨_, rfl⟩
      obtain ⟨R, hR⟩ : ∃ R, Bmp.popc u = R := ⟨_, rfl⟩
      obtain ⟨T, hT⟩ : ∃ T, Bmp.popc W = T := ⟨_, rfl⟩
      rw [hP, hT] at hm'
      rw [hP, hR] at h1
      rw [hT] at hle
      have HR := Lib.hid hR
      have HT := Lib.hid hT
      clear hm hP hR hT
      go_wp2
      go_roundw
      case rel => exact ⟨u, m + 1, rfl, by go_num, by (show _ = _; rw [HR.out, HT.out]; omega), by omega, by first | rfl | trivial⟩
      case measure => simp [intOf]; omega
theorem bmCount (h : Mp w base g bs A c) : Calls Try.prog 33 #[.pointer (some ⟨g, 0, none⟩)] w fun e w' => e = .returned (.int .i64 (bs.count true : Int)) ∧ w' = w := by
  have h1 := h.c1
  have h2 := h.c2
  have hn := h.n
  have hnw : nw bs.length ≤ 1024 := by unfold nw; omega
  have HO := Lib.hid (fun W hW => bmOnes W hW w)
  have HC := Lib.hid h
  obtain ⟨m, hm⟩ : ∃ m, nw bs.length = m := ⟨_, rfl⟩
  rw [hm] at h1 hnw
  have hml : Hid ((Bmp.words bs).length = m) := by (show _ = _; rw [← hm, Bmp.words_length]; rfl)
  have hcell : Hid (∀ j, j < m → ∃ b, A = some ⟨b, 0, none⟩ ∧ w.cell? ⟨b, j, none⟩ = some (.int .u64 (Bmp.word bs j : Int))) := fun j hj => by
    obtain ⟨b, rfl, hb⟩ := own_at h.own (by omega)
    have hl : j < (Bmp.words bs).length := by rw [hml.out]; exact hj
    refine ⟨b, rfl, ?_⟩
    rw [h.own.cellAt j (by omega)]
    simp [hl, wv, Bmp.words_get bs hl]
  have hall : Hid ((bs.take (64 * m)).count true = bs.count true) := by (show _ = _; rw [← hml.out]; exact Bmp.count_all bs)
  have hcl : Hid (∀ j, (bs.take (64 * j)).count true ≤ 65536) := fun j => Nat.le_trans (List.count_le_length ..) (Nat.le_trans (List.length_take_le' ..) hn)
  clear hm h
  go_enter Try.func33, Try.ntmps33
  go_wp2_with (go_at_call 43; refine (bmNone g true w h2).mono ?_; rintro e w' ⟨rfl, rfl⟩)
  go_loopw [3, 13] (fun x i wr => ∃ k : Nat, k ≤ m ∧ i = .int .i64 k ∧ x = .int .i64 ((bs.take (64 * k)).count true : Nat) ∧ wr = w') (fun _ i _ => m - (intOf i).toNat)
  case atStart => exact ⟨0, Nat.zero_le _, rfl, by simp, rfl⟩
  case round =>
    obtain ⟨k, hk, rfl, rfl, rfl⟩ := hrel
    by_cases hlt : k < m
    · obtain ⟨b, rfl, hce⟩ := hcell.out k hlt
      have hst := Bmp.count_step bs k
      have hc1 := hcl.out (k + 1)
      have hwl := Bmp.word_lt bs k
      have HO1 := Lib.hid (HO.out (Bmp.word bs k) hwl)
      rw [hst] at hc1
      generalize Bmp.word bs k = W at *
      generalize Bmp.popc W = p at *
      have HST := Lib.hid hst
      clear hst hcell
      generalize (bs.take (64 * k)).count true = q at *
      go_wp2_with (go_at_call 44; refine HO1.out.mono ?_; rintro e w' ⟨rfl, rfl⟩)
      go_roundw
      case rel => exact ⟨k + 1, hlt, by go_num, by rw [HST.out]; go_num, by first | rfl | trivial⟩
      case measure => simp [intOf]; omega
    · obtain rfl : k = m := by omega
      rw [hall.out]
      go_wp2
      go_ret
      exact ⟨rfl, rfl⟩
theorem infoWord : (Try.prog.info? 28).map (fun i => (i.zero, i.size, i.bytes)) = some (some (.int .u64 0), 1, 8) := by kernel_rfl
theorem bmNew0 (i : Int) (w : World) (h : i < 0 ∨ 65536 < i) : Calls Try.prog 22 #[.int .i64 i] w fun e w' => e = .returned (.pointer none) ∧ w' = w := by
  rcases h with h | h
  · go_enter Try.func22, Try.ntmps22
    go_wp2
    go_ret
    exact ⟨rfl, rfl⟩
  · go_enter Try.func22, Try.ntmps22
    go_wp2
    go_ret
    exact ⟨rfl, rfl⟩
theorem bmNew (n : Nat) (hn : n ≤ 65536) (w : World) : Calls Try.prog 22 #[.int .i64 (n : Int)] w fun e w' =>
    ∃ g A c, e = .returned (.pointer (some ⟨g, 0, none⟩)) ∧ Mp w' w.heap.size g (List.replicate n false) A c ∧ Below w.heap.size w w' ∧ w.heap.size ≤ g := by
  obtain ⟨i0, hi, hz0, hz1, hz2⟩ := info_parts infoWord
  obtain ⟨m, hm⟩ : ∃ m, nw n = m := ⟨_, rfl⟩
  have hm2 : m ≤ 1024 := by rw [← hm]; unfold nw; omega
  have he : ((n : Int) + 64 - 1) / 64 = (m : Int) := by rw [← hm]; unfold nw; omega
  have hmk : ∀ W : World, (Instr.makeSlice 60 (.int .i64 (m : Int)) (.int .i64 (m : Int))).run Try.prog W = .ok (.slice (some ⟨W.heap.size, 0, none⟩) m m) (W.alloc (.cells (madeCells #[.int .u64 0] m) 28)) := fun W => by
    have := run_make (P := Try.prog) W 60 28 i0 (.int .u64 0) Try.underlying60 hi hz0 .i64 .i64 (m : Int) (m : Int) (by omega) (by omega) (by rw [hz2]; omega) (by omega)
    rw [hz1, Nat.mul_one, Int.toNat_natCast] at this
    exact this
  have HM := Lib.hid hm
  clear hm
  go_enter Try.func22, Try.ntmps22
  go_wp2
  go_ret
  refine ⟨_, some ⟨w.heap.size, 0, none⟩, m, rfl, ⟨?_, ?_, ?_, ?_⟩, ((Below.refl _ _).alloc (Nat.le_refl _) _).alloc (by simp) _, by simp⟩
  · rw [List.length_replicate, HM.out]
    simpa using Blk.new (w.alloc (.cells (madeCells #[.int .u64 0] m) 28)) 62 #[.int .i64 (n : Int), .slice (some ⟨w.heap.size, 0, none⟩) m m, .bool true]
  · rw [List.length_replicate, HM.out, Bmp.words_none, List.map_replicate]
    have : (n + 63) / 64 = m := HM.out
    rw [this]
    exact (own_made w w.heap.size 28 (.int .u64 0) m m (Nat.le_refl _) (Nat.le_refl _) (by unfold maxLen; omega)).alloc _
  · rw [List.length_replicate]
    exact hn
  · simp
theorem bmCopy0 (w : World) (p : Option Addr) (hp : p = none ∨ ∃ g, p = some ⟨g, 0, none⟩ ∧ w.cell? ⟨g, 2, none⟩ = some (.bool false)) :
    Calls Try.prog 37 #[.pointer p] w fun e w' => e = .returned (.pointer none) ∧ w' = w := by
  rcases hp with rfl | ⟨g, rfl, h⟩
  · go_enter Try.func37, Try.ntmps37
    go_wp2_with (go_at_call 43; refine (bmNone0 w).mono ?_; rintro e w' ⟨rfl, rfl⟩)
    go_ret
    exact ⟨rfl, rfl⟩
  · go_enter Try.func37, Try.ntmps37
    go_wp2_with (go_at_call 43; refine (bmNone g false w h).mono ?_; rintro e w' ⟨rfl, rfl⟩)
    go_ret
    exact ⟨rfl, rfl⟩
theorem wp_app {P : Program} {w : World} {o : Oper} {a : Act} {K : Act → World → Prop} {Q : Exit → Act → World → Prop} (s x : Operand) (t : TypeId)
    (ho : o.op = .call { callee := .builtin .append, args := #[s, x], argTypes := #[t, t] })
    (base : Nat) (e : TypeId) (i : TypeInfo) (z : Value) (bytes : Nat) (ht : P.underlying t = some (.slice e)) (hi : P.info? e = some i) (hz : i.zero = some z)
    (hsize : i.size = 1) (hby : i.bytes = bytes) (hzs : z.cells.size = 1)
    (A0 : Option Addr) (n0 c0 : Nat) (xs : List Value) (hs : a.eval s = .slice A0 n0 c0) (hown : w.ownsRow base e 1 (.slice A0 n0 c0) n0 xs)
    (B : Nat) (A : Option Addr) (m c : Nat) (news : List Value) (hx : a.eval x = .slice A m c) (hm : news.length = m) (hr : Rd w B A news) (h1 : ∀ u ∈ news, u.oneCell' = true)
    (h63 : n0 + m ≤ maxLen) (hbytes : (n0 + m) * bytes ≤ 140737488355328) (hbase : base ≤ w.heap.size)
    (h : ∀ A' c' w', w'.ownsRow base e 1 (.slice A' (n0 + m) c') (n0 + m) (xs ++ news) → w.grownBy w' (Value.slice A0 n0 c0).ownBlock → Below base w w' → K (a.put o.dst (.slice A' (n0 + m) c')) w') :
    o.wp P a w K Q := by
  obtain ⟨A', c', w', hrun, h2, h3, h4⟩ := run_app (P := P) w base t o.type e i z bytes ht hi hz hsize hby hzs A0 n0 c0 xs hown B A m c news hm hr h1 h63 hbytes hbase
  unfold Oper.wp execOp
  simp only [ho, resolve, invoke, builtin, Sem.run_bind, Sem.run_pure, Result.andThen_ok, List.map_toArray, List.map_cons, List.map_nil, hs, hx, hrun]
  exact h A' c' w' h2 h3 h4
theorem wv_one {l : List Nat} : ∀ u ∈ l.map wv, u.oneCell' = true := by
  intro u hu
  obtain ⟨r, _, rfl⟩ := List.mem_map.1 hu
  rfl
theorem bmCopy (h : Mp w base g bs A c) : Calls Try.prog 37 #[.pointer (some ⟨g, 0, none⟩)] w fun e w' =>
    ∃ g' A' c', e = .returned (.pointer (some ⟨g', 0, none⟩)) ∧ Mp w' w.heap.size g' bs A' c' ∧ Below w.heap.size w w' ∧ w.heap.size ≤ g' := by
  have h0 := h.c0
  have h1 := h.c1
  have h2 := h.c2
  have hn := h.n
  obtain ⟨i0, hi, hz0, hz1, hz2⟩ := info_parts infoWord
  have hr := Rd.of_own h.own
  go_enter Try.func37, Try.ntmps37
  go_wp2_with (go_at_call 43; refine (bmNone g true w h2).mono ?_; rintro e w' ⟨rfl, rfl⟩)
  have hnw : nw bs.length ≤ 1024 := by unfold nw; omega
  have hwl : (Bmp.words bs).length = nw bs.length := Bmp.words_length bs
  have HGL := Lib.hid h.blk.lt
  have HC0 := Lib.hid h0
  have HC1 := Lib.hid h1
  have HRR := Lib.hid hr
  have HWL := Lib.hid hwl
  have HI := Lib.hid hi
  have HZ0 := Lib.hid hz0
  have HZ1 := Lib.hid hz1
  have HZ2 := Lib.hid hz2
  clear h hr hwl hi hz0 hz1 hz2 h0 h1 h2
  generalize hm : nw bs.length = m at *
  have HNW : Hid (nw bs.length = m) := hm
  clear hm
  refine wp_region_held_drew (S := (fun wQq => Below (World.heap (w'.drew)).size (w'.drew) wQq)) (by kernel_rfl) (by exact Below.refl _ _) (fun _ => ?_)
  refine wpAnyH_take (i := 0) (v := ?_) rfl (by kernel_rfl) (by kernel_rfl) (by kernel_rfl) (fun _ _ _ h => h) (Or.inl ⟨by rfl, ?_⟩) (Below.refl _ _) ?_
  rotate_left
  · intro wS hSw
    go_simp
    try with_reducible rfl
  try simp only [List.getElem_toArray, List.getElem_cons_zero, List.getElem_cons_succ, Act.put, List.setIfInBounds_toArray, List.set_cons_zero, List.set_cons_succ]
  refine wpAnyH_take (i := 1) (v := ?_) rfl (by kernel_rfl) (by kernel_rfl) (by kernel_rfl) (fun _ _ _ h => h) (Or.inl ⟨by rfl, ?_⟩) (Below.refl _ _) ?_
  rotate_left
  · intro wS hSw
    go_simp
    try with_reducible rfl
  try simp only [List.getElem_toArray, List.getElem_cons_zero, List.getElem_cons_succ, Act.put, List.setIfInBounds_toArray, List.set_cons_zero, List.set_cons_succ]
  refine wpAnyH_take (i := 2) (v := ?_) rfl (by kernel_rfl) (by kernel_rfl) (by kernel_rfl) (fun _ _ _ h => h) (Or.inl ⟨by rfl, ?_⟩) (Below.refl _ _) ?_
  rotate_left
  · intro wS hSw
    go_simp
    try with_reducible rfl
  try simp only [List.getElem_toArray, List.getElem_cons_zero, List.getElem_cons_succ, Act.put, List.setIfInBounds_toArray, List.set_cons_zero, List.set_cons_succ]
  refine wpAnyH_take (i := 4) (v := ?_) rfl (by kernel_rfl) (by kernel_rfl) (by kernel_rfl) (fun _ _ _ h => h) (Or.inl ⟨by rfl, ?_⟩) (Below.refl _ _) ?_
  rotate_left
  · intro wS hSw
    go_simp
    try with_reducible rfl
  try simp only [List.getElem_toArray, List.getElem_cons_zero, List.getElem_cons_succ, Act.put, List.setIfInBounds_toArray, List.set_cons_zero, List.set_cons_succ]
  refine wpAnyH_take (i := 5) (v := ?_) rfl (by kernel_rfl) (by kernel_rfl) (by kernel_rfl) (fun _ _ _ h => h) (Or.inl ⟨by rfl, ?_⟩) (Below.refl _ _) ?_
  rotate_left
  · intro wS hSw
    go_simp
    try with_reducible rfl
  try simp only [List.getElem_toArray, List.getElem_cons_zero, List.getElem_cons_succ, Act.put, List.setIfInBounds_toArray, List.set_cons_zero, List.set_cons_succ]
  refine wpAnyH_take (i := 6) (v := ?_) rfl (by kernel_rfl) (by kernel_rfl) (by kernel_rfl) (fun _ _ _ h => h) (Or.inl ⟨by rfl, ?_⟩) (Below.refl _ _) ?_
  rotate_left
  · intro wS hSw
    go_simp
    try with_reducible rfl
  try simp only [List.getElem_toArray, List.getElem_cons_zero, List.getElem_cons_succ, Act.put, List.setIfInBounds_toArray, List.set_cons_zero, List.set_cons_succ]
  refine wpAnyH_take (i := 3) (v := ?_) rfl (by kernel_rfl) (by kernel_rfl) (by kernel_rfl) (fun _ _ _ h => h) (Or.inl ⟨by rfl, ?_⟩) (Below.refl _ _) ?_
  rotate_left
  · intro wS hSw
    have hcv := ((hSw.cell (p := ⟨g, 0, none⟩) (by exact HGL.out)).trans HC0.out)
    go_simp
    try with_reducible rfl
  try simp only [List.getElem_toArray, List.getElem_cons_zero, List.getElem_cons_succ, Act.put, List.setIfInBounds_toArray, List.set_cons_zero, List.set_cons_succ]
  refine wpAnyH_take (i := 7) (v := ?_) rfl (by kernel_rfl) (by kernel_rfl) (by kernel_rfl) (fun _ _ _ h => h) (Or.inl ⟨by rfl, ?_⟩) (Below.refl _ _) ?_
  rotate_left
  · intro wS hSw
    have hcv := ((hSw.cell (p := ⟨g, 1, none⟩) (by exact HGL.out)).trans HC1.out)
    go_simp
    try with_reducible rfl
  try simp only [List.getElem_toArray, List.getElem_cons_zero, List.getElem_cons_succ, Act.put, List.setIfInBounds_toArray, List.set_cons_zero, List.set_cons_succ]
  refine wpAnyH_ready (rs := [8]) (by kernel_rfl) (by simp) ?_
  refine AllReadyH.cons rfl (fun K hK => ?_) AllReadyH.nil
  rw [if_pos (by rfl)]
  refine wp_app (.const (.slice none 0 0)) (.tmp 12) _ rfl w'.heap.size 28 _ _ 8 Try.underlying60 HI.out HZ0.out HZ1.out HZ2.out rfl none 0 0 [] rfl (World.ownsRow_nil _ _ _ _) _ A m c _ rfl (by rw [List.length_map]; exact HWL.out) HRR.out wv_one (by unfold maxLen; omega) (by omega) (Nat.le_refl _) ?_
  intro A2 c2 w2 ho2 hg2 hb2
  rw [Nat.zero_add, List.nil_append] at ho2
  rw [Nat.zero_add]
  refine hK.out _ _ hb2 (fun _ => ?_)
  clear hK K
  try simp only [List.getElem_toArray, List.getElem_cons_zero, List.getElem_cons_succ, Act.put, List.setIfInBounds_toArray, List.set_cons_zero, List.set_cons_succ]
  refine wpAnyH_strong (S2 := fun w' => Below (World.heap w2).size w2 w') (fun _ h => Below.via hb2 h) ?_
  refine wpAnyH_take (i := 9) (v := ?_) rfl (by kernel_rfl) (by kernel_rfl) (by kernel_rfl) (fun _ _ _ h => h) (Or.inl ⟨by rfl, ?_⟩) (Below.refl _ _) ?_
  rotate_left
  · intro wS hSw
    go_simp
    try with_reducible rfl
  try simp only [List.getElem_toArray, List.getElem_cons_zero, List.getElem_cons_succ, Act.put, List.setIfInBounds_toArray, List.set_cons_zero, List.set_cons_succ]
  refine wpAnyH_ready (rs := [10]) (by kernel_rfl) (by simp) ?_
  refine AllReadyH.cons rfl (fun K hK => ?_) AllReadyH.nil
  go_simp
  refine hK.out _ _ ((Below.refl _ _).alloc (Nat.le_refl _) _) (fun _ => ?_)
  clear hK K
  try simp only [List.getElem_toArray, List.getElem_cons_zero, List.getElem_cons_succ, Act.put, List.setIfInBounds_toArray, List.set_cons_zero, List.set_cons_succ]
  refine wpAnyH_take (i := 11) (v := ?_) rfl (by kernel_rfl) (by kernel_rfl) (by kernel_rfl) (fun _ _ _ h => h) (Or.inl ⟨by rfl, ?_⟩) ((Below.refl _ _).alloc (Nat.le_refl _) _) ?_
  rotate_left
  · intro wS hSw
    go_simp
    try with_reducible rfl
  try simp only [List.getElem_toArray, List.getElem_cons_zero, List.getElem_cons_succ, Act.put, List.setIfInBounds_toArray, List.set_cons_zero, List.set_cons_succ]
  refine wpAnyH_done (by kernel_rfl) ?_ _
  go_wp2
  go_ret
  have hz2' := hb2.size
  have hmm : nw bs.length = m := HNW.out
  refine ⟨_, A2, c2, rfl, ⟨by rw [hmm]; exact Blk.new _ _ _, by rw [hmm]; exact ho2.alloc _, hn, hz2'⟩, ((below_drewN (Below.refl w'.heap.size w') 1).trans hb2).alloc hz2' _, hz2'⟩
end Cib
