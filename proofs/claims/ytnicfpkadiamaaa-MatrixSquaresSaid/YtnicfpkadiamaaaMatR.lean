/- The document's functions of layer 4: Right, Same, At, Row, first; few. -/
import Derived.Test.YtnicfpkadiamaaaMatK
set_option linter.unusedVariables false
set_option linter.unusedSimpArgs false
set_option maxRecDepth 40000
namespace Cib
open Go Go.RowKit Go.Proofs
set_option maxHeartbeats 2000000 in
theorem refRight4 (r c : Int) (A : Option Addr) (n k : Nat) (w : World) : Calls Try.prog 13 #[.agg (mv r c A n k)] w fun e w' => e = .returned (.bool (mr r c n)) ∧ Below w.heap.size w w' := by
  have HAL := Lib.hid ((Below.refl w.heap.size w).alloc (Nat.le_refl _) (.cells (mv r c A n k) 24))
  unfold mv at HAL ⊢
  by_cases h1 : 1 ≤ r
  · by_cases h2 : r ≤ 255
    · by_cases h3 : 1 ≤ c
      · by_cases h4 : c ≤ 255
        · have hm : r * c ≤ 255 * 255 := Int.mul_le_mul h2 h4 (by omega) (by omega)
          have hm0 : 0 ≤ r * c := Int.mul_nonneg (by omega) (by omega)
          have HW : Hid (wrap64 (r * c) = r * c) := (by show wrap64 (r * c) = r * c; unfold wrap64; omega)
          obtain ⟨z, hz⟩ : ∃ z, Hid (decide ((n : Int) = r * c) = z) := ⟨_, rfl⟩
          have hzz : ((n : Int) == r * c) = z := by rw [← hz.out]; rfl
          rw [show mr r c n = z by rw [← hz.out]; simp [mr, wi, h1, h2, h3, h4]]
          clear hm hm0
          go_enter Try.func13, Try.ntmps13
          go_wp2
          go_ret
          rw [HW.out]
          exact ⟨by simp [hzz], HAL.out⟩
        · rw [show mr r c n = false by simp [mr, wi, h4]]
          go_enter Try.func13, Try.ntmps13
          go_wp2
          go_ret
          exact ⟨rfl, HAL.out⟩
      · rw [show mr r c n = false by simp [mr, wi, h3]]
        go_enter Try.func13, Try.ntmps13
        go_wp2
        go_ret
        exact ⟨rfl, HAL.out⟩
    · rw [show mr r c n = false by simp [mr, wi, h2]]
      go_enter Try.func13, Try.ntmps13
      go_wp2
      go_ret
      exact ⟨rfl, HAL.out⟩
  · rw [show mr r c n = false by simp [mr, wi, h1]]
    go_enter Try.func13, Try.ntmps13
    go_wp2
    go_ret
    exact ⟨rfl, HAL.out⟩
/-- The same matrix? -/
def smB (r c : Int) (bs : List UInt8) (r' c' : Int) (bs' : List UInt8) : Bool := decide (r = r' ∧ c = c' ∧ bs = bs')
set_option maxHeartbeats 2000000 in
theorem refSame4 (r c : Int) (A : Option Addr) (n k : Nat) (bs : List UInt8) (r' c' : Int) (A' : Option Addr) (n' k' : Nat) (bs' : List UInt8) (w : World) (B : Nat) (hB : B ≤ w.heap.size) (h : Rd w B A (bs.map bv)) (hn : bs.length = n) (h' : Rd w B A' (bs'.map bv)) (hn' : bs'.length = n') :
    Calls Try.prog 14 #[.agg (mv r c A n k), .agg (mv r' c' A' n' k')] w fun e w' => e = .returned (.bool (smB r c bs r' c' bs')) ∧ Below w.heap.size w w' := by
  have hal : Below w.heap.size w ((w.alloc (.cells (mv r c A n k) 24)).alloc (.cells (mv r' c' A' n' k') 24)) := ((Below.refl _ _).alloc (Nat.le_refl _) _).alloc (by simp) _
  have HAL := Lib.hid hal
  have hs := str_run (wS := (w.alloc (.cells (mv r c A n k) 24)).alloc (.cells (mv r' c' A' n' k') 24)) h hal hB hn k
  have hs' := str_run (wS := (w.alloc (.cells (mv r c A n k) 24)).alloc (.cells (mv r' c' A' n' k') 24)) h' hal hB hn' k'
  unfold mv at HAL hs hs' ⊢
  clear hal h h' hn hn'
  by_cases h1 : r = r'
  · by_cases h2 : c = c'
    · subst h1 h2
      obtain ⟨z, hz⟩ : ∃ z, decide (bs = bs') = z := ⟨_, rfl⟩
      have HZ : Hid (smB r c bs r c bs' = z) := Lib.hid (by rw [← hz]; simp [smB])
      have hz2 : ((⟨bs.toArray⟩ : ByteArray).toList == (⟨bs'.toArray⟩ : ByteArray).toList) = z := by
        rw [← hz]
        by_cases e : bs = bs'
        · subst e
          simp
        · have : ¬ (⟨bs.toArray⟩ : ByteArray).toList = (⟨bs'.toArray⟩ : ByteArray).toList := fun hh => e (by
            have h3 : ∀ l : List UInt8, (⟨l.toArray⟩ : ByteArray).toList = l := fun l => by simp
            rw [h3, h3] at hh
            exact hh)
          rw [decide_eq_false e]
          simpa using this
      rw [HZ.out]
      have HZ2 := Lib.hid hz2
      have HZ1 := Lib.hid hz
      clear hz hz2
      go_enter Try.func14, Try.ntmps14
      go_wp2
      go_ret
      refine ⟨ret_eq (bool_eq ?_), HAL.out⟩
      first | exact HZ2.out | (rw [← HZ1.out]; by_cases e : bs = bs' <;> simp [e])
    · have hd1 : (c == c') = false := by simpa using h2
      rw [show smB r c bs r' c' bs' = false by simp [smB, h2]]
      subst h1
      clear h2 hs hs'
      go_enter Try.func14, Try.ntmps14
      go_wp2
      go_ret
      exact ⟨rfl, HAL.out⟩
  · have hd1 : (r == r') = false := by simpa using h1
    rw [show smB r c bs r' c' bs' = false by simp [smB, h1]]
    clear h1 hs hs'
    go_enter Try.func14, Try.ntmps14
    go_wp2
    go_ret
    exact ⟨rfl, HAL.out⟩
theorem lawFew4 (r c : Int) (A : Option Addr) (n k : Nat) (hn : n ≤ maxLen) (w : World) : Calls Try.prog 9 #[.agg (mv r c A n k)] w fun e w' => e = .returned (.bool (decide (n ≤ 150))) ∧ Below w.heap.size w w' := by
  unfold maxLen at hn
  have HAL := Lib.hid ((Below.refl w.heap.size w).alloc (Nat.le_refl _) (.cells (mv r c A n k) 24))
  unfold mv at HAL ⊢
  by_cases h : n ≤ 150
  · rw [decide_eq_true h]
    have hd : decide ((n : Int) ≤ 150) = true := decide_eq_true (by omega)
    go_enter Try.func9, Try.ntmps9
    go_wp2
    go_ret
    exact ⟨ret_eq (bool_eq (by first | rfl | exact hd)), HAL.out⟩
  · rw [decide_eq_false h]
    have hd : decide ((n : Int) ≤ 150) = false := decide_eq_false (by omega)
    go_enter Try.func9, Try.ntmps9
    go_wp2
    go_ret
    exact ⟨ret_eq (bool_eq (by first | rfl | exact hd)), HAL.out⟩
/-- The place of a row's first number that isn't nought, -1 where there is none. -/
def fstZ (row : List UInt8) : Int := match Lin.fstN row with | some a => a | none => -1
theorem fstN_here {row : List UInt8} {j : Nat} (hj : j < row.length) (h : ∀ i, i < j → row.getD i 0 = 0) (hne : row[j] ≠ 0) : Lin.fstN row = some j := by
  unfold Lin.fstN
  rw [List.findIdx?_eq_some_iff_getElem]
  refine ⟨hj, by simpa using hne, fun i hi => ?_⟩
  have := h i hi
  rw [getD_0 (by omega)] at this
  simp [this]
theorem fstN_no {row : List UInt8} (h : ∀ i, i < row.length → row.getD i 0 = 0) : Lin.fstN row = none := by
  unfold Lin.fstN
  rw [List.findIdx?_eq_none_iff]
  intro x hx
  obtain ⟨i, hi, rfl⟩ := List.getElem_of_mem hx
  have := h i hi
  rw [getD_0 hi] at this
  simp [this]
set_option maxHeartbeats 1000000 in
theorem refFirst4 (A : Option Addr) (n k : Nat) (row : List UInt8) (w : World) (B : Nat) (h : Rd w B A (row.map bv)) (hn : row.length = n) (hm : n ≤ 65536) :
    Calls Try.prog 35 #[.slice A n k] w fun e w' => e = .returned (.int .i64 (fstZ row)) ∧ w' = w := by
  have HR := Lib.hid h
  have HN := Lib.hid hn
  clear h hn
  obtain ⟨z, HZ⟩ : ∃ z, Hid (fstZ row = z) := ⟨_, rfl⟩
  rw [HZ.out]
  go_enter Try.func35, Try.ntmps35
  go_wp2
  go_loop [3] (fun i => ∃ j : Nat, j ≤ n ∧ i = .int .i64 j ∧ Hid (∀ i, i < j → row.getD i 0 = 0)) (fun i => n - (intOf i).toNat)
  case atStart => exact ⟨0, Nat.zero_le _, rfl, Lib.hid (fun i hi => by omega)⟩
  case round =>
    obtain ⟨j, hj, rfl, hx⟩ := hrel
    by_cases hlt : j < n
    · have hjL : j < row.length := by rw [HN.out]; exact hlt
      obtain ⟨ad, rfl, _, hc⟩ := HR.out.byte hjL
      have HY : Hid (row[j] ≠ 0 → fstZ row = (j : Int)) := Lib.hid fun e => by unfold fstZ; rw [fstN_here hjL hx.out e]
      have HW : Hid (row[j] = 0 → ∀ i, i < j + 1 → row.getD i 0 = 0) := Lib.hid fun e i hi => by
        by_cases hij : i = j
        · rw [hij, getD_0 hjL]
          exact e
        · exact hx.out i (by omega)
      generalize row[j] = y at *
      clear hx hjL
      by_cases hy : y = 0
      · have HQ := Lib.hid (HW.out hy)
        subst hy
        clear HW HY
        go_wp2
        exact ⟨⟨j + 1, hlt, by go_num, HQ⟩, by simp [intOf]; omega⟩
      · obtain rfl : z = (j : Int) := by rw [← HZ.out]; exact HY.out hy
        have hx0 := Lin.ne8 hy
        have hb1 : (((y.toNat : Nat) : Int) == 0) = false := by simp; omega
        have hb2 : (((y.toNat : Nat) : Int) != 0) = true := by simp; omega
        clear hy HW HY hx0
        go_wp2
        go_ret
        exact ⟨rfl, rfl⟩
    · obtain rfl : z = -1 := by
        rw [← HZ.out]
        unfold fstZ
        rw [fstN_no fun i hi => hx.out i (by rw [HN.out] at hi; omega)]
      go_wp2
      go_ret
      exact ⟨rfl, rfl⟩
set_option maxHeartbeats 1000000 in
theorem refRow4 (r c i : Nat) (A : Option Addr) (n k : Nat) (hi : i < r) (hr : r ≤ 255) (hc : c ≤ 255) (hn : n = r * c) (hk : n ≤ k) (w : World) :
    Calls Try.prog 34 #[.agg (mv r c A n k), .int .i64 (i : Int)] w fun e w' => e = .returned (.slice (cut A k (i * c)) c (k - i * c)) ∧ Below w.heap.size w w' := by
  have HAL := Lib.hid ((Below.refl w.heap.size w).alloc (Nat.le_refl _) (.cells (mv r c A n k) 24))
  have h0 : (i + 1) * c ≤ r * c := Nat.mul_le_mul_right c hi
  have h1 : i * c ≤ 255 * 255 := Nat.mul_le_mul (by omega) hc
  have h2 : (i + 1) * c = i * c + c := Nat.succ_mul i c
  have hm1 : (i : Int) * (c : Int) = ((i * c : Nat) : Int) := by simp
  have hm2 : ((i : Int) + 1) * (c : Int) = ((i * c + c : Nat) : Int) := by rw [← h2]; simp
  have hsl := fun W : World => run_cut_both (P := Try.prog) 22 5 Try.underlying22 sizeByte A n k (i * c) (i * c + c) .i64 .i64 (by omega) (by omega) W
  rw [show i * c + c - i * c = c from by omega] at hsl
  unfold mv at HAL ⊢
  generalize i * c = p at *
  simp only [Int.natCast_add] at hsl
  clear h0 h2 hn
  go_enter Try.func34, Try.ntmps34
  go_wp2
  go_ret
  exact ⟨rfl, HAL.out⟩
end Cib
