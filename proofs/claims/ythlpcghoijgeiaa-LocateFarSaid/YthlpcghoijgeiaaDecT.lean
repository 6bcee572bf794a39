/- Which shards are there. -/
import Derived.Test.YthlpcghoijgeiaaDecM
set_option linter.unusedVariables false
set_option linter.unusedSimpArgs false
set_option maxRecDepth 40000
namespace Cib
open Go Go.RowKit Go.Proofs
theorem byClone (A : Option Addr) (n c B : Nat) (bs : List UInt8) (hl : bs.length = n) (h0 : 0 < n) (hn : n ≤ 1000000000) (w : World) (h : Rd w B A (bs.map bv)) (hB : B ≤ w.heap.size) : Calls Try.prog 66 #[.slice A n c] w (NewB bs w) := by
  obtain ⟨ad, rfl, _⟩ := h (by intro e; simp at e; subst e; simp at hl; omega)
  have hE : Sem.run Try.prog (binOp .eql 22 (.slice (some ad) n c) (.slice none 0 0)) w = .ok (.bool false) w := Lib.run_eql_slice_nil w 22 5 (some ad) n c 0 0 Try.underlying22
  go_enter Try.func66, Try.ntmps66
  have HR := Lib.hid h
  have HL := Lib.hid hl
  clear h hl
  go_wp2_with (at_builtin; refine appB _ rfl (.tmp 5) (.tmp 6) rfl w.heap.size (some ⟨w.heap.size, 0, none⟩) 0 0 [] rfl ⟨rfl, .inr ⟨_, 0, #[], rfl, Nat.le_refl _, heap_alloc_new w _, Nat.le_refl _, by decide, rfl, rfl⟩⟩ B (some ad) n c (bs.map bv) rfl (by rw [List.length_map]; exact HL.out) (HR.out.alloc hB _) one_bytes (by omega) (by simp) ?_; intro A1 c1' w1 ho1 hg1 hb1)
  go_ret
  rw [Nat.zero_add, List.nil_append] at ho1
  exact ⟨A1, n, c1', by first | rfl | rw [Nat.zero_add] | simp, HL.out, ho1, ((Below.refl _ _).alloc (Nat.le_refl _) _).trans hb1⟩
/-- The numbers of the rows that have bytes. -/
def hav (L : List (List UInt8)) (n : Nat) : List Nat := (List.range n).filter fun i => decide (0 < (L.getD i []).length)
theorem hav_next (L : List (List UInt8)) (n : Nat) : hav L (n + 1) = if 0 < (L.getD n []).length then hav L n ++ [n] else hav L n := by
  unfold hav
  rw [List.range_succ, List.filter_append]
  by_cases h : 0 < (L.getD n []).length
  · simp only [List.filter_cons, List.filter_nil]
    rw [if_pos h, if_pos (decide_eq_true h)]
  · simp only [List.filter_cons, List.filter_nil]
    rw [if_neg h, if_neg (fun e => h (of_decide_eq_true e)), List.append_nil]
theorem hav_le (L : List (List UInt8)) (n : Nat) : (hav L n).length ≤ n := by
  have := List.length_filter_le (fun i => decide (0 < (L.getD i []).length)) (List.range n)
  rw [List.length_range] at this
  exact this
theorem hav_mem {L : List (List UInt8)} {n i : Nat} : i ∈ hav L n ↔ i < n ∧ 0 < (L.getD i []).length := by simp [hav]
theorem hav_up (L : List (List UInt8)) (n : Nat) : (hav L n).Pairwise (· < ·) := List.Pairwise.filter _ List.pairwise_lt_range
theorem infoInts : (Try.prog.info? 3).map (fun i => (i.zero, i.size, i.bytes)) = some (some (.int .i64 0), 1, 8) := by kernel_rfl
theorem sizeInt : (Try.prog.info? 3).map (·.size) = some 1 := by kernel_rfl
/-- append to a slice of numbers of the call's own. -/
theorem appI {ops : Array Oper} {rest : List Oper} {o : Oper} {a : Act} {Q : Exit → Act → World → Prop} (w : World) (hgd : o.guard = none) (s x : Operand)
    (ho : o.op = .call { callee := .builtin .append, args := #[s, x], argTypes := #[34, 34] })
    (base : Nat) (A0 : Option Addr) (n0 c0 : Nat) (xs : List Value) (hs : a.eval s = .slice A0 n0 c0) (hown : w.ownsRow base 3 1 (.slice A0 n0 c0) n0 xs)
    (B : Nat) (A : Option Addr) (m c : Nat) (news : List Value) (hx : a.eval x = .slice A m c) (hm : news.length = m) (hr : Rd w B A news) (h1 : ∀ u ∈ news, u.oneCell' = true)
    (hbytes : n0 + m ≤ 1000000000) (hbase : base ≤ w.heap.size)
    (h : ∀ A' c' w', w'.ownsRow base 3 1 (.slice A' (n0 + m) c') (n0 + m) (xs ++ news) → w.grownBy w' (Value.slice A0 n0 c0).ownBlock → Below base w w' → wpList Try.prog ops Q rest (a.put o.dst (.slice A' (n0 + m) c')) w') :
    wpList Try.prog ops Q (o :: rest) a w := by
  obtain ⟨i0, hi, hz0, hz1, hz2⟩ := info_parts infoInts
  exact wpList_app w hgd s x 34 ho base 3 i0 _ 8 Try.underlying34 hi hz0 hz1 hz2 rfl A0 n0 c0 xs hs hown B A m c news hx hm hr h1 (by unfold maxLen; omega) (by omega) hbase h
theorem one_iv (n : Nat) : ∀ u ∈ [iv n], u.oneCell' = true := by
  intro u hu
  rw [List.mem_singleton] at hu
  subst hu
  rfl
/-- The closure of there: never odd, where all that are there are of one length. -/
theorem decOdd (g3 g6 : Nat) (i u0 W : Nat) (Al Ah : Option Addr) (n cl nh ch : Nat) (al ah : Addr) (A1 A2 : Option Addr) (c1 c2 : Nat) (w : World) (hal : Al = some al) (hah : Ah = some ah) (hi : i < n) (hu : u0 < n) (hh : 0 < nh)
    (h3 : w.cell? ⟨g3, 0, none⟩ = some (.slice Al n cl)) (h6 : w.cell? ⟨g6, 0, none⟩ = some (.slice Ah nh ch)) (q1 : w.cell? (al.add i) = some (.slice A1 W c1)) (q2 : w.cell? ah = some (.int .i64 (u0 : Int))) (q3 : w.cell? (al.add u0) = some (.slice A2 W c2)) :
    Calls Try.prog 73 #[.int .i64 (i : Int), .pointer (some ⟨g3, 0, none⟩), .pointer (some ⟨g6, 0, none⟩)] w fun e w' => e = .returned (.bool false) ∧ Below w.heap.size w w' := by
  subst hal hah
  have h3 : w.drew.cell? ⟨g3, 0, none⟩ = some (.slice (some al) n cl) := h3
  have h6 : w.drew.cell? ⟨g6, 0, none⟩ = some (.slice (some ah) nh ch) := h6
  have q1 : w.drew.cell? (al.add i) = some (.slice A1 W c1) := q1
  have q2 : w.drew.cell? ah = some (.int .i64 (u0 : Int)) := q2
  have q3 : w.drew.cell? (al.add u0) = some (.slice A2 W c2) := q3
  have hB := Lib.hid (below_drewN (Below.refl w.heap.size w) 1)
  go_enter Try.func73, Try.ntmps73
  go_wp2
  refine wp_region_held_drew (S := (fun wQq => wQq = w.drew)) (by kernel_rfl) (rfl) (fun _ => ?_)
  refine wpAnyH_take (i := 1) (v := ?_) rfl (by kernel_rfl) (by kernel_rfl) (by kernel_rfl) (fun _ _ _ h => h) (Or.inl ⟨by rfl, ?_⟩) (rfl) ?_
  rotate_left
  · intro wS hSw
    go_simp
    try with_reducible rfl
  try simp only [List.getElem_toArray, List.getElem_cons_zero, List.getElem_cons_succ, Act.put, List.setIfInBounds_toArray, List.set_cons_zero, List.set_cons_succ]
  refine wpAnyH_take (i := 0) (v := ?_) rfl (by kernel_rfl) (by kernel_rfl) (by kernel_rfl) (fun _ _ _ h => h) (Or.inl ⟨by rfl, ?_⟩) (rfl) ?_
  rotate_left
  · intro wS hSw
    have hcv := True.intro
    subst hSw
    go_simp
    try with_reducible rfl
  try simp only [List.getElem_toArray, List.getElem_cons_zero, List.getElem_cons_succ, Act.put, List.setIfInBounds_toArray, List.set_cons_zero, List.set_cons_succ]
  refine wpAnyH_take (i := 2) (v := ?_) rfl (by kernel_rfl) (by kernel_rfl) (by kernel_rfl) (fun _ _ _ h => h) (Or.inl ⟨by rfl, ?_⟩) (rfl) ?_
  rotate_left
  · intro wS hSw
    go_simp
    try with_reducible rfl
  try simp only [List.getElem_toArray, List.getElem_cons_zero, List.getElem_cons_succ, Act.put, List.setIfInBounds_toArray, List.set_cons_zero, List.set_cons_succ]
  refine wpAnyH_take (i := 3) (v := ?_) rfl (by kernel_rfl) (by kernel_rfl) (by kernel_rfl) (fun _ _ _ h => h) (Or.inl ⟨by rfl, ?_⟩) (rfl) ?_
  rotate_left
  · intro wS hSw
    have hcv := True.intro
    subst hSw
    go_simp
    try with_reducible rfl
  try simp only [List.getElem_toArray, List.getElem_cons_zero, List.getElem_cons_succ, Act.put, List.setIfInBounds_toArray, List.set_cons_zero, List.set_cons_succ]
  refine wpAnyH_take (i := 4) (v := ?_) rfl (by kernel_rfl) (by kernel_rfl) (by kernel_rfl) (fun _ _ _ h => h) (Or.inl ⟨by rfl, ?_⟩) (rfl) ?_
  rotate_left
  · intro wS hSw
    go_simp
    try with_reducible rfl
  try simp only [List.getElem_toArray, List.getElem_cons_zero, List.getElem_cons_succ, Act.put, List.setIfInBounds_toArray, List.set_cons_zero, List.set_cons_succ]
  refine wpAnyH_take (i := 5) (v := ?_) rfl (by kernel_rfl) (by kernel_rfl) (by kernel_rfl) (fun _ _ _ h => h) (Or.inl ⟨by rfl, ?_⟩) (rfl) ?_
  rotate_left
  · intro wS hSw
    have hcv := True.intro
    subst hSw
    go_simp
    try with_reducible rfl
  try simp only [List.getElem_toArray, List.getElem_cons_zero, List.getElem_cons_succ, Act.put, List.setIfInBounds_toArray, List.set_cons_zero, List.set_cons_succ]
  refine wpAnyH_take (i := 6) (v := ?_) rfl (by kernel_rfl) (by kernel_rfl) (by kernel_rfl) (fun _ _ _ h => h) (Or.inl ⟨by rfl, ?_⟩) (rfl) ?_
  rotate_left
  · intro wS hSw
    have hcv := True.intro
    subst hSw
    go_simp
    try with_reducible rfl
  try simp only [List.getElem_toArray, List.getElem_cons_zero, List.getElem_cons_succ, Act.put, List.setIfInBounds_toArray, List.set_cons_zero, List.set_cons_succ]
  refine wpAnyH_take (i := 7) (v := ?_) rfl (by kernel_rfl) (by kernel_rfl) (by kernel_rfl) (fun _ _ _ h => h) (Or.inl ⟨by rfl, ?_⟩) (rfl) ?_
  rotate_left
  · intro wS hSw
    go_simp
    try with_reducible rfl
  try simp only [List.getElem_toArray, List.getElem_cons_zero, List.getElem_cons_succ, Act.put, List.setIfInBounds_toArray, List.set_cons_zero, List.set_cons_succ]
  refine wpAnyH_take (i := 8) (v := ?_) rfl (by kernel_rfl) (by kernel_rfl) (by kernel_rfl) (fun _ _ _ h => h) (Or.inl ⟨by rfl, ?_⟩) (rfl) ?_
  rotate_left
  · intro wS hSw
    have hcv := True.intro
    subst hSw
    go_simp
    try with_reducible rfl
  try simp only [List.getElem_toArray, List.getElem_cons_zero, List.getElem_cons_succ, Act.put, List.setIfInBounds_toArray, List.set_cons_zero, List.set_cons_succ]
  refine wpAnyH_take (i := 9) (v := ?_) rfl (by kernel_rfl) (by kernel_rfl) (by kernel_rfl) (fun _ _ _ h => h) (Or.inl ⟨by rfl, ?_⟩) (rfl) ?_
  rotate_left
  · intro wS hSw
    go_simp
    try with_reducible rfl
  try simp only [List.getElem_toArray, List.getElem_cons_zero, List.getElem_cons_succ, Act.put, List.setIfInBounds_toArray, List.set_cons_zero, List.set_cons_succ]
  refine wpAnyH_take (i := 10) (v := ?_) rfl (by kernel_rfl) (by kernel_rfl) (by kernel_rfl) (fun _ _ _ h => h) (Or.inl ⟨by rfl, ?_⟩) (rfl) ?_
  rotate_left
  · intro wS hSw
    have hcv := True.intro
    subst hSw
    go_simp
    try with_reducible rfl
  try simp only [List.getElem_toArray, List.getElem_cons_zero, List.getElem_cons_succ, Act.put, List.setIfInBounds_toArray, List.set_cons_zero, List.set_cons_succ]
  refine wpAnyH_take (i := 11) (v := ?_) rfl (by kernel_rfl) (by kernel_rfl) (by kernel_rfl) (fun _ _ _ h => h) (Or.inl ⟨by rfl, ?_⟩) (rfl) ?_
  rotate_left
  · intro wS hSw
    go_simp
    try with_reducible rfl
  try simp only [List.getElem_toArray, List.getElem_cons_zero, List.getElem_cons_succ, Act.put, List.setIfInBounds_toArray, List.set_cons_zero, List.set_cons_succ]
  refine wpAnyH_take (i := 12) (v := ?_) rfl (by kernel_rfl) (by kernel_rfl) (by kernel_rfl) (fun _ _ _ h => h) (Or.inl ⟨by rfl, ?_⟩) (rfl) ?_
  rotate_left
  · intro wS hSw
    go_simp
    try with_reducible rfl
  try simp only [List.getElem_toArray, List.getElem_cons_zero, List.getElem_cons_succ, Act.put, List.setIfInBounds_toArray, List.set_cons_zero, List.set_cons_succ]
  refine wpAnyH_take (i := 13) (v := ?_) rfl (by kernel_rfl) (by kernel_rfl) (by kernel_rfl) (fun _ _ _ h => h) (Or.inl ⟨by rfl, ?_⟩) (rfl) ?_
  rotate_left
  · intro wS hSw
    go_simp
    try with_reducible rfl
  try simp only [List.getElem_toArray, List.getElem_cons_zero, List.getElem_cons_succ, Act.put, List.setIfInBounds_toArray, List.set_cons_zero, List.set_cons_succ]
  refine wpAnyH_done (by kernel_rfl) ?_ _
  go_wp2
  go_ret
  exact ⟨rfl, hB.out⟩
set_option maxHeartbeats 1000000 in
/-- IndexFunc, where the function says no to all. -/
theorem byIndexNo (fn : Nat) (caps : Array Value) (A : Option Addr) (n c : Nat) (us : List Nat) (hl : us.length = n) (B : Nat) (w : World) (h : Rd w B A (us.map iv)) (hB : B ≤ w.heap.size) (hn : n ≤ 9223372036854775807) (hent : ∀ (a : Array Value) (W : World), (callFunc fn a).run Try.prog W = .ok (.enter fn a) W)
    (H : ∀ q (hq : q < us.length), ∀ W, Below w.heap.size w W → Calls Try.prog fn (#[.int .i64 (us[q] : Int)] ++ caps) W fun e W' => e = .returned (.bool false) ∧ Below W.heap.size W W') :
    Calls Try.prog 82 #[.slice A n c, .func (.func fn) #[] caps] w fun e w' => e = .returned (.int .i64 (-1)) ∧ Below w.heap.size w w' := by
  have HH := Lib.hid H
  have HR := Lib.hid h
  have HL := Lib.hid hl
  clear H h hl
  go_enter Try.func82, Try.ntmps82
  go_wp2
  go_loopw [5, 8] (fun _ i wr => ∃ p : Nat, i = .int .i64 p ∧ p ≤ n ∧ Hid (Below w.heap.size w wr)) (fun _ i _ => n - (intOf i).toNat)
  case atStart => exact ⟨0, rfl, Nat.zero_le _, Lib.hid (Below.refl _ _)⟩
  case round =>
    obtain ⟨p, rfl, hp, HBr⟩ := hrel
    by_cases hlt : p < n
    · have hpl : p < us.length := by rw [HL.out]; exact hlt
      obtain ⟨ad, rfl, hcell⟩ := rd_int (HR.out.below (HBr.out.mono hB)) hpl
      have HC := Lib.hid (HH.out p hpl wr HBr.out)
      generalize us[p] = u at *
      clear hpl
      go_wp2_with (refine HC.out.mono ?_; rintro e w2 ⟨rfl, hb2⟩; have HB2 := Lib.hid (HBr.out.via hb2))
      go_roundw
      case rel => exact ⟨p + 1, by go_num, hlt, HB2⟩
      case measure => simp [intOf]; omega
    · obtain rfl : p = n := by omega
      go_wp2
      go_ret
      exact ⟨rfl, HBr.out⟩
theorem byContainsNo (fn : Nat) (caps : Array Value) (A : Option Addr) (n c : Nat) (w : World)
    (H : Calls Try.prog 82 #[.slice A n c, .func (.func fn) #[] caps] w fun e w' => e = .returned (.int .i64 (-1)) ∧ Below w.heap.size w w') :
    Calls Try.prog 74 #[.slice A n c, .func (.func fn) #[] caps] w fun e w' => e = .returned (.bool false) ∧ Below w.heap.size w w' := by
  go_enter Try.func74, Try.ntmps74
  go_wp2_with (go_at_call 82; refine H.mono ?_; rintro e w2 ⟨rfl, hb2⟩)
  go_ret
  exact ⟨rfl, hb2⟩
end Cib
