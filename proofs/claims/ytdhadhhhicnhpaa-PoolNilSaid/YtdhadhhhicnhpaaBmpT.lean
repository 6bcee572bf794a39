/- Ints, and takes: what must come at any rate. -/
import Derived.Test.YtdhadhhhicnhpaaBmpS
set_option linter.unusedVariables false
set_option linter.unusedSimpArgs false
set_option maxRecDepth 20000
namespace Cib
open Go Go.RowKit Go.Proofs
variable {base g : Nat} {bs : List Bool} {A : Option Addr} {c : Nat}
theorem rd_int {w : World} {B : Nat} {A : Option Addr} {L : List Nat} (h : Rd w B A (L.map iv)) {k : Nat} (hk : k < L.length) : ∃ ad, A = some ad ∧ w.cell? (ad.add k) = some (.int .i64 (L[k] : Int)) := by
  obtain ⟨ad, e, hb, hc⟩ := h (by intro e; simp at e; subst e; simp at hk)
  have := hc k (by simpa using hk)
  rw [List.getElem_map] at this
  exact ⟨ad, e, this⟩
theorem refInts (A1 A2 : Option Addr) (n1 n2 c1 c2 B : Nat) (L M : List Nat) (w : World) (h1 : Rd w B A1 (L.map iv)) (h2 : Rd w B A2 (M.map iv)) (hl1 : L.length = n1) (hl2 : M.length = n2) (hn1 : n1 ≤ 9223372036854775807) (hB : B ≤ w.heap.size) :
    Calls Try.prog 23 #[.slice A1 n1 c1, .slice A2 n2 c2] w fun e w' => e = .returned (.bool (decide (L = M))) ∧ Below w.heap.size w w' := by
  by_cases hl : n1 = n2
  · subst hl
    have HL := Lib.hid hl1
    have HM := Lib.hid hl2
    have H1 := Lib.hid h1
    have H2 := Lib.hid h2
    obtain ⟨r, HR⟩ : ∃ r, Hid (decide (L = M) = r) := ⟨_, rfl⟩
    rw [HR.out]
    clear h1 h2 hl1 hl2
    go_enter Try.func23, Try.ntmps23
    go_wp2
    go_loopw [5] (fun i wr => ∃ k : Nat, k ≤ n1 ∧ i = .int .i64 k ∧ Hid (L.take k = M.take k) ∧ Below w.heap.size w wr) (fun i _ => n1 - (intOf i).toNat)
    case atStart => exact ⟨0, Nat.zero_le _, rfl, (show _ = _ from rfl), Below.refl _ _⟩
    case round =>
      obtain ⟨k, hk, rfl, ht, hb⟩ := hrel
      by_cases hlt : k < n1
      · have hk1 : k < L.length := by rw [HL.out]; exact hlt
        have hk2 : k < M.length := by rw [HM.out]; exact hlt
        obtain ⟨ad1, rfl, hc1⟩ := rd_int (H1.out.below (hb.mono hB)) hk1
        obtain ⟨ad2, rfl, hc2⟩ := rd_int (H2.out.below (hb.mono hB)) hk2
        have hnx : Hid (∀ _ : L[k] = M[k], L.take (k + 1) = M.take (k + 1)) := fun e => by
          rw [List.take_succ_eq_append_getElem hk1, List.take_succ_eq_append_getElem hk2, ht.out, e]
        have hno : Hid (L[k] ≠ M[k] → decide (L = M) = false) := fun hne => by
          rw [decide_eq_false]
          intro e
          subst e
          exact hne rfl
        generalize L[k] = x at *
        generalize M[k] = y at *
        clear ht hk1 hk2
        by_cases hxy : x = y
        · subst hxy
          have hnx' := hnx.out rfl
          clear hnx hno
          have HNX := Lib.hid hnx'
          clear hnx'
          go_upto_region 6 with fail
          go_region
          all_goals (try go_wp2)
          all_goals exact ⟨⟨k + 1, hlt, by go_num, HNX, below_drewN hb 1⟩, by simp [intOf]; omega⟩
        · have hno' := hno.out hxy
          rw [HR.out] at hno'
          subst hno'
          have hne : ((x : Int) != (y : Int)) = true := by simp; omega
          clear hnx hno
          go_upto_region 6 with fail
          go_region
          all_goals (try go_wp2)
          all_goals
            go_ret
            exact ⟨rfl, below_drewN hb 1⟩
      · obtain rfl : k = n1 := by omega
        have he : L = M := by
          have := ht.out
          rwa [List.take_of_length_le (by rw [HL.out]; exact Nat.le_refl _), List.take_of_length_le (by rw [HM.out]; exact Nat.le_refl _)] at this
        obtain rfl : r = true := by rw [← HR.out, decide_eq_true he]
        go_wp2
        go_ret
        exact ⟨rfl, hb⟩
  · have he : decide (L = M) = false := by
      rw [decide_eq_false]
      intro e
      subst e
      omega
    rw [he]
    have hne : ((n1 : Int) != (n2 : Int)) = true := by simp; omega
    clear h1 h2 hl1 hl2 he
    go_enter Try.func23, Try.ntmps23
    go_wp2
    go_ret
    exact ⟨rfl, Below.refl _ _⟩
def bs5 : List Bool := [false, true, false, false, false]
end Cib
