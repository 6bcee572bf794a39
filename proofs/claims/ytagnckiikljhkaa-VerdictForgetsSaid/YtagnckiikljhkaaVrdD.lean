/- In, meets; what came in of VerdictFirst; its plain law. -/
import Derived.Test.YtagnckiikljhkaaVrdC
import Derived.Test.YtagnckiikljhkaaRowsK
import Derived.SliceStrings
import Derived.OpenShut
set_option linter.unusedVariables false
set_option linter.unusedSimpArgs false
set_option maxRecDepth 20000
namespace Vrd
def meetB (a b : List ByteArray) : Bool := a.any fun k => decide (k ∈ b)
theorem meetB_iff {a b : List ByteArray} : meetB a b = true ↔ ∃ k, k ∈ a ∧ k ∈ b := by
  unfold meetB
  simp
theorem meetB_comm (a b : List ByteArray) : meetB a b = meetB b a := by
  have h : meetB a b = true ↔ meetB b a = true := by
    rw [meetB_iff, meetB_iff]
    exact ⟨fun ⟨k, h1, h2⟩ => ⟨k, h2, h1⟩, fun ⟨k, h1, h2⟩ => ⟨k, h2, h1⟩⟩
  cases h1 : meetB a b <;> cases h2 : meetB b a <;> simp_all
end Vrd
namespace Cib
open Go Go.RowKit Go.Proofs Go.ChangeShapes Go.WideShapes Go.Deep
section
variable {w w' : World} {B : Nat} {Ak Bk : Option Addr} {keys : List ByteArray}
theorem rd_str (h : Rd w B Ak (keys.map sv)) {j : Nat} (hj : j < keys.length) : ∃ ad, Ak = some ad ∧ w.cell? (ad.add j) = some (.string keys[j]) := by
  obtain ⟨ad, e, _, hc⟩ := h (by intro e; simp at e; subst e; simp at hj)
  have := hc j (by simpa using hj)
  rw [List.getElem_map] at this
  exact ⟨ad, e, this⟩
theorem toList_inj {a b : ByteArray} (h : a.toList = b.toList) : a = b := by
  rw [ByteArray.toList_eq, ByteArray.toList_eq] at h
  exact Go.WideShapes.bytes_inj h
theorem refIn (k : ByteArray) (h : Rd w B Ak (keys.map sv)) {n : Nat} (hn : keys.length = n) (hnm : n ≤ maxLen) (c : Nat) :
    Calls Try.prog 17 #[.string k, .slice Ak n c] w fun e w' => e = .returned (.bool (decide (k ∈ keys))) ∧ w' = w := by
  unfold maxLen at hnm
  have HR := Lib.hid h
  have HN := Lib.hid hn
  clear h hn
  obtain ⟨r, HV⟩ : ∃ r, Hid (decide (k ∈ keys) = r) := ⟨_, rfl⟩
  rw [HV.out]
  go_enter Try.func17, Try.ntmps17
  go_wp2
  go_loopw [5] (fun i wr => ∃ j : Nat, j ≤ n ∧ i = .int .i64 j ∧ Hid (¬ k ∈ keys.take j) ∧ wr = w) (fun i _ => n - (intOf i).toNat)
  case atStart => exact ⟨0, Nat.zero_le _, rfl, (by intro x; cases x), by first | rfl | trivial⟩
  case round =>
    obtain ⟨j, hj, rfl, hx, rfl⟩ := hrel
    by_cases hlt : j < n
    · have hjL : j < keys.length := by rw [HN.out]; exact hlt
      obtain ⟨ad, rfl, hc⟩ := rd_str HR.out hjL
      by_cases he : keys[j] = k
      · obtain rfl : r = true := by rw [← HV.out, decide_eq_true (by rw [← he]; exact List.getElem_mem hjL)]
        rw [he] at hc
        go_wp2
        go_ret
        exact ⟨rfl, rfl⟩
      · have hnx : Hid (¬ k ∈ keys.take (j + 1)) := fun hm => by
          rw [List.take_succ_eq_append_getElem hjL] at hm
          rcases List.mem_append.1 hm with h1 | h1
          · exact hx.out h1
          · exact he (List.mem_singleton.1 h1).symm
        have hne : (keys[j].toList == k.toList) = false := by
          rw [beq_eq_false_iff_ne]
          exact fun h => he (toList_inj h)
        clear hx
        generalize keys[j] = y at *
        go_wp2
        exact ⟨⟨j + 1, hlt, by go_num, hnx, by first | rfl | trivial⟩, by simp [intOf]; omega⟩
    · obtain rfl : r = false := by
        rw [← HV.out, decide_eq_false]
        have := hx.out
        rwa [List.take_of_length_le (by rw [HN.out]; omega)] at this
      go_wp2
      go_ret
      exact ⟨rfl, rfl⟩
theorem lawMeets {a b : List ByteArray} (ha : Rd w B Ak (a.map sv)) (hb : Rd w B Bk (b.map sv)) {n m : Nat} (hn : a.length = n) (hm : b.length = m) (hnm : n ≤ maxLen) (hmm : m ≤ maxLen) (c d : Nat) :
    Calls Try.prog 9 #[.slice Ak n c, .slice Bk m d] w fun e w' => e = .returned (.bool (Vrd.meetB a b)) ∧ w' = w := by
  have HI := Lib.hid (fun k => refIn (w := w) k hb hm hmm d)
  unfold maxLen at hnm
  have HR := Lib.hid ha
  have HN := Lib.hid hn
  clear ha hn hb hm hmm
  obtain ⟨r, HV⟩ : ∃ r, Hid (Vrd.meetB a b = r) := ⟨_, rfl⟩
  rw [HV.out]
  go_enter Try.func9, Try.ntmps9
  go_wp2
  go_loopw [5] (fun i wr => ∃ j : Nat, j ≤ n ∧ i = .int .i64 j ∧ Hid (Vrd.meetB (a.take j) b = false) ∧ wr = w) (fun i _ => n - (intOf i).toNat)
  case atStart => exact ⟨0, Nat.zero_le _, rfl, (by rfl), by first | rfl | trivial⟩
  case round =>
    obtain ⟨j, hj, rfl, hx, rfl⟩ := hrel
    by_cases hlt : j < n
    · have hjL : j < a.length := by rw [HN.out]; exact hlt
      obtain ⟨ad, rfl, hc⟩ := rd_str HR.out hjL
      have HC := Lib.hid (HI.out a[j])
      by_cases he : a[j] ∈ b
      · obtain rfl : r = true := by rw [← HV.out, Vrd.meetB_iff]; exact ⟨_, List.getElem_mem hjL, he⟩
        rw [decide_eq_true he] at HC
        clear he
        generalize a[j] = y at *
        go_wp2_with fail
        refine HC.out.mono ?_
        rintro e w2 ⟨rfl, rfl⟩
        go_wp2
        go_ret
        exact ⟨rfl, rfl⟩
      · have hnx : Hid (Vrd.meetB (a.take (j + 1)) b = false) := by
          have := hx.out
          unfold Vrd.meetB at this
          show _ = _
          unfold Vrd.meetB
          rw [List.take_succ_eq_append_getElem hjL, List.any_append, this]
          simpa using he
        rw [decide_eq_false he] at HC
        clear hx he
        generalize a[j] = y at *
        go_wp2_with fail
        refine HC.out.mono ?_
        rintro e w2 ⟨rfl, rfl⟩
        go_wp2
        go_roundw
        case rel => exact ⟨j + 1, hlt, by go_num, hnx, by first | rfl | trivial⟩
        case measure => simp [intOf]; omega
    · obtain rfl : r = false := by
        rw [← HV.out]
        have := hx.out
        rwa [List.take_of_length_le (by rw [HN.out]; omega)] at this
      go_wp2
      go_ret
      exact ⟨rfl, rfl⟩
end
end Cib
