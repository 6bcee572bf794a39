/- A map of places in memory; what none, in, Len, Has answer. -/
import Derived.Test.YtdhadhhhicnhpaaBmpP
set_option linter.unusedVariables false
set_option linter.unusedSimpArgs false
set_option maxRecDepth 20000
namespace Cib
open Go Go.RowKit Go.Proofs
def wv (n : Nat) : Value := .int .u64 (n : Int)
def nw (n : Nat) : Nat := (n + 63) / 64
/-- A map that was made: its three cells, and the words, the maker's own from block base on. -/
structure Mp (w : World) (base g : Nat) (bs : List Bool) (A : Option Addr) (c : Nat) : Prop where
  blk : Blk w g 62 #[.int .i64 (bs.length : Int), .slice A (nw bs.length) c, .bool true]
  own : w.ownsRow base 28 1 (.slice A (nw bs.length) c) (nw bs.length) ((Bmp.words bs).map wv)
  n : bs.length ≤ 65536
  hg : base ≤ g
section
variable {w w' : World} {base g : Nat} {bs : List Bool} {A : Option Addr} {c : Nat}
theorem Mp.words_length (h : Mp w base g bs A c) : (Bmp.words bs).length = nw bs.length := Bmp.words_length bs
theorem own_below {b B : Nat} {e : TypeId} {v : Value} {n : Nat} {xs : List Value} (h : w.ownsRow b e 1 v n xs) (hb : Below B w w') (hB : w.heap.size ≤ B) : w'.ownsRow b e 1 v n xs := by
  refine ⟨h.1, ?_⟩
  rcases h.2 with h0 | ⟨g, cap, cur, hv, h1, h2, h3⟩
  · exact .inl h0
  · have hg : g < w.heap.size := Blk.lt (t := e) (cs := cur) h2
    exact .inr ⟨g, cap, cur, hv, h1, (hb.block g (by omega)).trans h2, h3⟩
theorem Mp.below (h : Mp w base g bs A c) (hb : Below w.heap.size w w') : Mp w' base g bs A c :=
  ⟨h.blk.below hb h.blk.lt, own_below h.own hb (Nat.le_refl _), h.n, h.hg⟩
theorem Mp.c0 (h : Mp w base g bs A c) : w.cell? ⟨g, 0, none⟩ = some (.int .i64 (bs.length : Int)) := h.blk.cell 0
theorem Mp.c1 (h : Mp w base g bs A c) : w.cell? ⟨g, 1, none⟩ = some (.slice A (nw bs.length) c) := h.blk.cell 1
theorem Mp.c2 (h : Mp w base g bs A c) : w.cell? ⟨g, 2, none⟩ = some (.bool true) := h.blk.cell 2
/-- The word of a place. -/
theorem Mp.word (h : Mp w base g bs A c) {i : Nat} (hi : i < bs.length) : ∃ b, A = some ⟨b, 0, none⟩ ∧ base ≤ b ∧ i / 64 < nw bs.length ∧ w.cell? ⟨b, i / 64, none⟩ = some (.int .u64 (Bmp.word bs (i / 64) : Int)) ∧ w.frozen? ⟨b, i / 64, none⟩ = false := by
  have hk : i / 64 < nw bs.length := by unfold nw; omega
  obtain ⟨b, rfl, hb⟩ := own_at h.own (by omega)
  have hl : i / 64 < (Bmp.words bs).length := by rw [Bmp.words_length]; exact hk
  refine ⟨b, rfl, hb, hk, ?_, h.own.frozenAt _⟩
  rw [h.own.cellAt (i / 64) (by omega)]
  simp [hl, wv, Bmp.words_get bs hl]
end
variable {w : World} {base g : Nat} {bs : List Bool} {A : Option Addr} {c : Nat}
theorem bmNone (g : Nat) (made : Bool) (w : World) (h : w.cell? ⟨g, 2, none⟩ = some (.bool made)) :
    Calls Try.prog 43 #[.pointer (some ⟨g, 0, none⟩)] w fun e w' => e = .returned (.bool (!made)) ∧ w' = w := by
  cases made <;>
  · go_enter Try.func43, Try.ntmps43
    go_wp2
    go_ret
    exact ⟨rfl, rfl⟩
theorem bmNone0 (w : World) : Calls Try.prog 43 #[.pointer none] w fun e w' => e = .returned (.bool true) ∧ w' = w := by
  go_enter Try.func43, Try.ntmps43
  go_wp2
  go_ret
  exact ⟨rfl, rfl⟩
theorem bmLen (h : Mp w base g bs A c) : Calls Try.prog 32 #[.pointer (some ⟨g, 0, none⟩)] w fun e w' => e = .returned (.int .i64 (bs.length : Int)) ∧ w' = w := by
  have h0 := h.c0
  have h2 := h.c2
  go_enter Try.func32, Try.ntmps32
  go_wp2_with (go_at_call 43; refine (bmNone g true w h2).mono ?_; rintro e w' ⟨rfl, rfl⟩)
  go_ret
  exact ⟨rfl, rfl⟩
theorem bmIn (h : Mp w base g bs A c) (i : Int) : Calls Try.prog 40 #[.pointer (some ⟨g, 0, none⟩), .int .i64 i] w fun e w' => e = .returned (.bool (decide (0 ≤ i ∧ i < bs.length))) ∧ w' = w := by
  have h0 := h.c0
  have h2 := h.c2
  by_cases h1 : 0 ≤ i
  · have e : decide (0 ≤ i ∧ i < bs.length) = decide (i < bs.length) := by simp [h1]
    rw [e]
    go_enter Try.func40, Try.ntmps40
    go_wp2_with (go_at_call 43; refine (bmNone g true w h2).mono ?_; rintro e w' ⟨rfl, rfl⟩)
    go_ret
    exact ⟨rfl, rfl⟩
  · have e : decide (0 ≤ i ∧ i < bs.length) = false := by simp [h1]
    rw [e]
    go_enter Try.func40, Try.ntmps40
    go_wp2_with (go_at_call 43; refine (bmNone g true w h2).mono ?_; rintro e w' ⟨rfl, rfl⟩)
    go_ret
    exact ⟨rfl, rfl⟩
theorem bmHas (h : Mp w base g bs A c) (i : Int) : Calls Try.prog 34 #[.pointer (some ⟨g, 0, none⟩), .int .i64 i] w fun e w' => e = .returned (.bool (Bmp.has bs i)) ∧ w' = w := by
  have h1 := h.c1
  have HIN := Lib.hid (bmIn h i)
  by_cases hi : 0 ≤ i ∧ i < bs.length
  · obtain ⟨k, rfl⟩ : ∃ k : Nat, i = (k : Int) := ⟨i.toNat, by omega⟩
    have hk : k < bs.length := by omega
    rw [Bmp.has_in hk]
    rw [decide_eq_true hi] at HIN
    obtain ⟨b, rfl, hb, hlt, hcell, _⟩ := h.word hk
    have hw := Bmp.word_has bs hk
    have hn := h.n
    have hW := Bmp.word_lt bs (k / 64)
    obtain ⟨x, hx⟩ : ∃ x, bs[k] = x := ⟨_, rfl⟩
    rw [hx] at hw ⊢
    generalize Bmp.word bs (k / 64) = W at *
    have hnw : nw bs.length ≤ 1024 := by unfold nw; omega
    clear h hx hi
    generalize nw bs.length = m at *
    have hand : bits .and .u64 ((W : Int) / 2 ^ (k % 64)) 1 = if x then 1 else 0 := by
      have e : (W : Int) / (2 : Int) ^ (k % 64) = ((W / 2 ^ (k % 64) : Nat) : Int) := by simp
      have hle : W / 2 ^ (k % 64) ≤ W := Nat.div_le_self _ _
      have hQ0 : (0 : Int) ≤ ((W / 2 ^ (k % 64) : Nat) : Int) := Int.natCast_nonneg _
      have hQ1 : ((W / 2 ^ (k % 64) : Nat) : Int) ≤ 18446744073709551615 := Int.le_trans (Int.ofNat_le.2 hle) (by omega)
      rw [e, and_one_u64 _ hQ0 hQ1]
      have h5 : ((W / 2 ^ (k % 64) : Nat) : Int) % 2 = ((W / 2 ^ (k % 64) % 2 : Nat) : Int) := by omega
      rw [h5, hw]
      cases x <;> rfl
    go_enter Try.func34, Try.ntmps34
    cases x <;> simp only [if_true, if_false, Bool.false_eq_true] at hand
    all_goals go_wp2_with (go_at_call 40; refine HIN.out.mono ?_; rintro e w' ⟨rfl, rfl⟩)
    all_goals
      go_ret
      exact ⟨rfl, rfl⟩
  · rw [Bmp.has_out hi]
    rw [decide_eq_false hi] at HIN
    go_enter Try.func34, Try.ntmps34
    go_wp2_with (go_at_call 40; refine HIN.out.mono ?_; rintro e w' ⟨rfl, rfl⟩)
    go_ret
    exact ⟨rfl, rfl⟩
/-- What a store into the map's words leaves of the rest. -/
structure Just (w w' : World) (b : Nat) : Prop where
  size : w.heap.size ≤ w'.heap.size
  block : ∀ k, k < w.heap.size → k ≠ b → w'.heap[k]? = w.heap[k]?
theorem Mp.ne {b : Nat} (h : Mp w base g bs (some ⟨b, 0, none⟩) c) : g ≠ b := by
  intro e
  subst e
  rcases h.own.2 with ⟨h0, _⟩ | ⟨g', cap, cur, hv, _, h2, _⟩
  · cases h0
  · injection hv with e1
    injection e1 with e1
    injection e1 with e1
    subst e1
    have := h.blk
    unfold Blk at this
    rw [h2] at this
    injection this with this
    injection this with _ h3
    exact absurd h3 (by decide)
theorem Mp.drewN (h : Mp w base g bs A c) (q : Nat) : Mp (w.drewN q) base g bs A c := ⟨h.blk, h.own, h.n, h.hg⟩
theorem Mp.store {b k V : Nat} {on : Bool} (h : Mp w base g bs (some ⟨b, 0, none⟩) c) (hk : k < bs.length) (hw : Hid (Bmp.words (bs.set k on) = (Bmp.words bs).set (k / 64) V)) (q : Nat) :
    Mp ((w.drewN q).setCell ⟨b, k / 64, none⟩ (.int .u64 (V : Int))) base g (bs.set k on) (some ⟨b, 0, none⟩) c := by
  refine ⟨?_, ?_, by rw [List.length_set]; exact h.n, h.hg⟩
  · rw [List.length_set]
    exact (h.blk.drewN q).far h.ne _
  · rw [List.length_set, hw.out, List.map_set]
    exact (World.ownsRow.stored (w := w.drewN q) h.own (k / 64) (wv V)).1
theorem bmSet (h : Mp w base g bs A c) (i : Int) (on : Bool) : Calls Try.prog 26 #[.pointer (some ⟨g, 0, none⟩), .int .i64 i, .bool on] w fun e w' =>
    e = .returned (.bool (Bmp.set bs i on).1) ∧ Mp w' base g (Bmp.set bs i on).2 A c ∧ Below base w w' ∧ (∀ k, k < w.heap.size → (∀ b, A = some ⟨b, 0, none⟩ → k ≠ b) → w'.heap[k]? = w.heap[k]?) := by
  have h1 := h.c1
  have HIN := Lib.hid (bmIn h i)
  have HHAS := Lib.hid (bmHas h i)
  by_cases hi : 0 ≤ i ∧ i < bs.length
  · rw [decide_eq_true hi] at HIN
    by_cases hne : Bmp.has bs i = on
    · have e : Bmp.set bs i on = (false, bs) := by unfold Bmp.set; rw [if_neg]; simp [hne]
      rw [e]
      rw [hne] at HHAS
      go_enter Try.func26, Try.ntmps26
      go_wp2_with (first | (go_at_call 40; refine HIN.out.mono ?_; rintro e w' ⟨rfl, rfl⟩) | (go_at_call 34; refine HHAS.out.mono ?_; rintro e w' ⟨rfl, rfl⟩))
      go_ret
      exact ⟨rfl, h, Below.refl _ _, fun _ _ _ => rfl⟩
    · have e : Bmp.set bs i on = (true, bs.set i.toNat on) := by unfold Bmp.set; rw [if_pos ⟨hi.1, hi.2, hne⟩]
      rw [e]
      obtain ⟨k, rfl⟩ : ∃ k : Nat, i = (k : Int) := ⟨i.toNat, by omega⟩
      have hk : k < bs.length := by omega
      obtain ⟨b, rfl, hb, hlt, hcell, hfr⟩ := h.word hk
      have hn := h.n
      have hW := Bmp.word_lt bs (k / 64)
      have HMP := Lib.hid h
      have hnw : nw bs.length ≤ 1024 := by unfold nw; omega
      have hpl : 2 ^ (k % 64) < 18446744073709551616 := by
        have h1 : 2 ^ (k % 64) < 2 ^ 64 := Nat.pow_lt_pow_right (by decide) (Nat.mod_lt _ (by decide))
        exact h1
      have hv := u64_xor_nat (Bmp.word bs (k / 64)) (2 ^ (k % 64)) hW hpl
      have hp : IntKind.u64.wrap ((2 : Int) ^ (k % 64)) = ((2 ^ (k % 64) : Nat) : Int) := by
        have : (2 : Int) ^ (k % 64) = ((2 ^ (k % 64) : Nat) : Int) := by simp
        rw [this, IntKind.wrap_u64]
        exact Int.emod_eq_of_lt (Int.natCast_nonneg _) (Int.ofNat_lt.2 hpl)
      have HSET : Hid (Bmp.words (bs.set k on) = (Bmp.words bs).set (k / 64) (Bmp.word bs (k / 64) ^^^ 2 ^ (k % 64))) := Bmp.words_set bs hk (by rw [← Bmp.has_in hk]; exact hne)
      obtain ⟨V, hV⟩ : ∃ V, Hid (Bmp.word bs (k / 64) ^^^ 2 ^ (k % 64) = V) := ⟨_, rfl⟩
      rw [hV.out] at hv HSET
      have hx : (Bmp.has bs (k : Int) == on) = false := by simpa using hne
      clear h hi hne hV e hpl
      generalize 2 ^ (k % 64) = p2 at hv hp
      generalize Bmp.word bs (k / 64) = W at *
      generalize hm : nw bs.length = m at *
      replace hm := Lib.hid hm
      go_enter Try.func26, Try.ntmps26
      go_wp2_with (first | (go_at_call 40; refine HIN.out.mono ?_; rintro e w' ⟨rfl, rfl⟩) | (go_at_call 34; refine HHAS.out.mono ?_; rintro e w' ⟨rfl, rfl⟩))
      go_region
      all_goals (try go_wp2)
      go_ret
      refine ⟨rfl, (HMP.out.store hk HSET 0).drewN 1, below_drewN ((Below.refl base w').setCell (show base ≤ (Addr.mk b (k / 64) none).block from hb) _) 1, fun j hj hjb => ?_⟩
      exact heap_setCell_other w' ⟨b, k / 64, none⟩ j _ (hjb b rfl)
  · have e : Bmp.set bs i on = (false, bs) := by unfold Bmp.set; rw [if_neg]; intro hh; exact hi ⟨hh.1, hh.2.1⟩
    rw [e]
    rw [decide_eq_false hi] at HIN
    go_enter Try.func26, Try.ntmps26
    go_wp2_with (go_at_call 40; refine HIN.out.mono ?_; rintro e w' ⟨rfl, rfl⟩)
    go_ret
    exact ⟨rfl, h, Below.refl _ _, fun _ _ _ => rfl⟩
end Cib
