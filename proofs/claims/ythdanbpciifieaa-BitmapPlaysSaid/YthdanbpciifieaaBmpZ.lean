/- The document's map in memory: New, Has. -/
import Derived.Test.YthdanbpciifieaaBmpT
import Derived.Test.YthdanbpciifieaaBmpY
set_option linter.unusedVariables false
set_option linter.unusedSimpArgs false
set_option maxRecDepth 20000
namespace Cib
open Go Go.RowKit Go.Proofs
/-- The document's map: how many places, and the taken ones, rising, in a slice of the maker's own. -/
structure Rm (w : World) (base g : Nat) (bs : List Bool) (A : Option Addr) (n c : Nat) : Prop where
  blk : Blk w g 42 #[.int .i64 (bs.length : Int), .slice A n c]
  own : w.ownsRow base 3 1 (.slice A n c) n ((Bmp.trues bs 0).map iv)
  hn : (Bmp.trues bs 0).length = n
  len : bs.length ≤ 65536
  hg : base ≤ g
variable {w w' : World} {base g n c : Nat} {bs : List Bool} {A : Option Addr}
theorem Rm.below (h : Rm w base g bs A n c) (hb : Below w.heap.size w w') : Rm w' base g bs A n c :=
  ⟨h.blk.below hb h.blk.lt, own_below h.own hb (Nat.le_refl _), h.hn, h.len, h.hg⟩
theorem Rm.c0 (h : Rm w base g bs A n c) : w.cell? ⟨g, 0, none⟩ = some (.int .i64 (bs.length : Int)) := h.blk.cell 0
theorem Rm.c1 (h : Rm w base g bs A n c) : w.cell? ⟨g, 1, none⟩ = some (.slice A n c) := h.blk.cell 1
theorem refNew0 (i : Int) (w : World) (h : i < 0 ∨ 65536 < i) : Calls Try.prog 16 #[.int .i64 i] w fun e w' => e = .returned (.pointer none) ∧ w' = w := by
  rcases h with h | h
  all_goals
    go_enter Try.func16, Try.ntmps16
    go_wp2
    go_ret
    exact ⟨rfl, rfl⟩
theorem refNew (n : Nat) (hn : n ≤ 65536) (w : World) : Calls Try.prog 16 #[.int .i64 (n : Int)] w fun e w' =>
    ∃ g, e = .returned (.pointer (some ⟨g, 0, none⟩)) ∧ Rm w' w.heap.size g (List.replicate n false) none 0 0 ∧ Below w.heap.size w w' := by
  go_enter Try.func16, Try.ntmps16
  go_wp2
  go_ret
  refine ⟨_, rfl, ⟨by rw [List.length_replicate]; exact Blk.new _ _ _, by rw [Bmp.trues_none]; exact World.ownsRow_nil _ _ _ _, by rw [Bmp.trues_none]; rfl, by rw [List.length_replicate]; exact hn, Nat.le_refl _⟩, (Below.refl _ _).alloc (Nat.le_refl _) _⟩
theorem refHas (h : Rm w base g bs A n c) (i : Int) : Calls Try.prog 18 #[.pointer (some ⟨g, 0, none⟩), .int .i64 i] w fun e w' => e = .returned (.bool (decide (∃ x ∈ Bmp.trues bs 0, (x : Int) = i))) ∧ w' = w := by
  have hc1 := h.c1
  have hr := Rd.of_own h.own
  have hn := h.hn
  have hle : n ≤ 65536 := by rw [← hn, Bmp.trues_length]; exact Nat.le_trans (List.count_le_length ..) h.len
  have HR := Lib.hid hr
  have HN := Lib.hid hn
  clear h hr hn
  generalize Bmp.trues bs 0 = L at *
  obtain ⟨r, HV⟩ : ∃ r, Hid (decide (∃ x ∈ L, (x : Int) = i) = r) := ⟨_, rfl⟩
  rw [HV.out]
  go_enter Try.func18, Try.ntmps18
  go_wp2
  go_loopw [5] (fun k wr => ∃ j : Nat, j ≤ n ∧ k = .int .i64 j ∧ Hid (∀ x ∈ L.take j, (x : Int) ≠ i) ∧ wr = w) (fun k _ => n - (intOf k).toNat)
  case atStart => exact ⟨0, Nat.zero_le _, rfl, (by intro x hx; cases hx), by first | rfl | trivial⟩
  case round =>
    obtain ⟨j, hj, rfl, hx, rfl⟩ := hrel
    by_cases hlt : j < n
    · have hjL : j < L.length := by rw [HN.out]; exact hlt
      obtain ⟨ad, rfl, hc⟩ := rd_int HR.out hjL
      by_cases he : (L[j] : Int) = i
      · obtain rfl : r = true := by rw [← HV.out, decide_eq_true ⟨L[j], List.getElem_mem hjL, he⟩]
        rw [he] at hc
        go_wp2
        go_ret
        exact ⟨rfl, rfl⟩
      · have hnx : Hid (∀ x ∈ L.take (j + 1), (x : Int) ≠ i) := fun x hxm => by
          rw [List.take_succ_eq_append_getElem hjL] at hxm
          rcases List.mem_append.1 hxm with h1 | h1
          · exact hx.out x h1
          · rw [List.mem_singleton.1 h1]
            exact he
        have hne : ((L[j] : Int) == i) = false := by simpa using he
        clear hx
        generalize L[j] = y at *
        go_wp2
        exact ⟨⟨j + 1, hlt, by go_num, hnx, by first | rfl | trivial⟩, by simp [intOf]; omega⟩
    · obtain rfl : r = false := by
        rw [← HV.out, decide_eq_false]
        rintro ⟨x, hxm, hxi⟩
        exact hx.out x (by rw [List.take_of_length_le (by rw [HN.out]; omega)]; exact hxm) hxi
      go_wp2
      go_ret
      exact ⟨rfl, rfl⟩
end Cib
