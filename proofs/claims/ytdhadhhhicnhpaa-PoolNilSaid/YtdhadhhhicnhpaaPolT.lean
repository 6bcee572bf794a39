/- A pool: Take. -/
import Derived.Test.YtdhadhhhicnhpaaPolN
set_option linter.unusedVariables false
set_option linter.unusedSimpArgs false
set_option maxRecDepth 20000
namespace Bmp
/-- What Take gives: places, an error, what is out behind it. -/
def takeF (O : List Bool) (n : Int) : List Nat × Int × List Bool :=
  if n < 0 then ([], 2, O) else if n > (O.length : Int) - (O.count true : Int) then ([], 140, O) else (leastF O n, 0, setN O (leastF O n))
theorem leastF_lt {O : List Bool} {n : Int} {i : Nat} (h : i ∈ leastF O n) : i < O.length ∧ O.getD i false = false := by
  unfold leastF at h
  split at h
  · cases h
  · exact least_lt h
theorem leastF_le (O : List Bool) (n : Int) : (leastF O n).length ≤ O.length := by
  unfold leastF
  split
  · simp
  · have := free_length O 0
    simp
    omega
end Bmp
namespace Cib
open Go Go.RowKit Go.Proofs
/-- In the loop of Take. -/
structure TkI (w : World) (B g f : Nat) (x : PlP) (O Z : List Bool) (L : List Nat) (A : Option Addr) (m c k : Nat) (wr : World) : Prop where
  pl : Pl wr B g f x (Bmp.setN O (L.take k)) Z
  own : wr.ownsRow w.heap.size 3 1 (.slice A m c) m (L.map iv)
  below : Below B w wr
  same : Same [28] w wr
/-- What Take answers. -/
def TakeR (w : World) (B g f : Nat) (x : PlP) (O Z : List Bool) (n : Int) (e : Ending) (w' : World) : Prop :=
  ∃ A m c, e = .returned (.tuple #[.slice A m c, .int .i64 (Bmp.takeF O n).2.1]) ∧ ((Bmp.takeF O n).1.map (· + f)).length = m ∧ w'.ownsRow w.heap.size 3 1 (.slice A m c) m (((Bmp.takeF O n).1.map (· + f)).map iv) ∧ Pl w' B g f x (Bmp.takeF O n).2.2 Z ∧ Below B w w' ∧ Same [28] w w'
set_option maxHeartbeats 1000000 in
theorem plTake {w : World} {B g f : Nat} {x : PlP} {O Z : List Bool} (h : Pl w B g f x O Z) (hB : B ≤ w.heap.size) (n : Int) (hn : -9223372036854775808 ≤ n ∧ n ≤ 9223372036854775807) :
    Calls Try.prog 8 #[.pointer (some ⟨g, 0, none⟩), .int .i64 n] w (TakeR w B g f x O Z n) := by
  have HP := Lib.hid h
  have HNO := Lib.hid (plNone h)
  have HFR := Lib.hid (plFree h)
  have h40 := h.many
  have hcl : O.count true ≤ O.length := List.count_le_length ..
  by_cases h1 : n < 0
  · have HT : Hid (Bmp.takeF O n = ([], 2, O)) := Lib.hid (if_pos h1)
    clear h HFR
    go_enter Try.func8, Try.ntmps8
    go_wp2_with (go_at_call 24; refine HNO.out.mono ?_; rintro e w' ⟨rfl, rfl⟩)
    first | go_ret2 | go_ret
    unfold TakeR
    rw [HT.out]
    exact ⟨none, 0, 0, rfl, rfl, World.ownsRow_nil _ _ _ _, HP.out, Below.refl _ _, Same.refl _ _⟩
  by_cases h2 : n > (O.length : Int) - (O.count true : Int)
  · have HT : Hid (Bmp.takeF O n = ([], 140, O)) := Lib.hid (by unfold Bmp.takeF; rw [if_neg h1, if_pos h2])
    clear h
    go_enter Try.func8, Try.ntmps8
    go_wp2_with (first | (go_at_call 24; refine HNO.out.mono ?_; rintro e w' ⟨rfl, rfl⟩) | (go_at_call 14; refine HFR.out.mono ?_; rintro e w' ⟨rfl, q, rfl⟩))
    first | go_ret2 | go_ret
    unfold TakeR
    rw [HT.out]
    exact ⟨none, 0, 0, rfl, rfl, World.ownsRow_nil _ _ _ _, HP.out.drewN q, below_drewN (Below.refl _ _) q, (Same.refl _ _).drewN q⟩
  have HT : Hid (Bmp.takeF O n = (Bmp.leastF O n, 0, Bmp.setN O (Bmp.leastF O n))) := Lib.hid (by unfold Bmp.takeF; rw [if_neg h1, if_neg h2])
  have HLT : Hid (∀ i ∈ Bmp.leastF O n, i < O.length) := fun i hi => (Bmp.leastF_lt hi).1
  have HLL := Lib.hid (Bmp.leastF_le O n)
  have HLE := Lib.hid fun q => bmLeast (h.mo.drewN q) n hn.2
  have c3 := h.c3
  clear h
  unfold TakeR
  rw [HT.out]
  dsimp only
  generalize Bmp.leastF O n = L at *
  clear HT
  go_enter Try.func8, Try.ntmps8
  go_wp2_with (first | (go_at_call 24; refine HNO.out.mono ?_; rintro e w' ⟨rfl, rfl⟩) | (go_at_call 14; refine HFR.out.mono ?_; rintro e w2 ⟨rfl, q, rfl⟩))
  refine (HLE.out q).mono ?_
  rintro e w3 ⟨A, m, c, rfl, hLm, ho3, hb3⟩
  have HLM := Lib.hid hLm
  have hmO : m ≤ 400 := by have := HLL.out; omega
  have H0 : Hid (TkI w' B g f x O Z L A m c 0 w3) := Lib.hid ⟨by rw [List.take_zero]; exact (HP.out.drewN q).below hb3, ho3, (below_drewN (Below.refl B w') q).trans (hb3.mono hB), Same.below (w := w') (hb3.mono (Nat.le_refl _) |> fun h => (below_drewN (Below.refl _ w') q).trans h)⟩
  clear hLm ho3 hb3 c3
  go_wp2
  go_loopw [28] (fun i wr => ∃ k : Nat, i = .int .i64 k ∧ k ≤ m ∧ Hid (TkI w' B g f x O Z L A m c k wr)) (fun i _ => m - (intOf i).toNat)
  case atStart => exact ⟨0, rfl, Nat.zero_le _, H0⟩
  case round =>
    obtain ⟨k, rfl, hk, hI⟩ := hrel
    by_cases hlt : k < m
    · have hkL : k < L.length := by rw [HLM.out]; exact hlt
      obtain ⟨ad, rfl, hc⟩ := rd_int (Rd.of_own hI.out.own) hkL
      have HST := Lib.hid (plSetO hI.out.pl L[k] (by rw [Bmp.setN_length]; exact HLT.out _ (List.getElem_mem hkL)) true)
      rw [← Bmp.setN_take O L k hkL] at HST
      generalize L[k] = v at *
      have c3 := hI.out.pl.c3
      clear hkL
      go_wp2_with (go_at_call 26; refine HST.out.mono ?_; rintro e w4 ⟨⟨r, rfl⟩, hp4, hb4, hs4⟩)
      go_roundw
      case rel => exact ⟨k + 1, by go_num, hlt, Lib.hid ⟨hp4, own_same hI.out.own hs4 (by decide), hI.out.below.trans hb4, hI.out.same.trans hs4⟩⟩
      case measure => simp [intOf]; omega
    · obtain rfl : k = m := by omega
      have HFT : Hid (L.take k = L) := Lib.hid (List.take_of_length_le (by rw [HLM.out]; exact Nat.le_refl _))
      have hp := hI.out.pl
      rw [HFT.out] at hp
      have HPL := Lib.hid (plPlaces hp wr.heap.size A k c L (Rd.of_own hI.out.own) (Nat.le_refl _) HLM.out (by omega) (fun i hi => by have := HLT.out i hi; omega))
      have HPP := Lib.hid hp
      clear hp
      go_wp2_with (go_at_call 27; refine HPL.out.mono ?_; rintro e w5 ⟨A5, n5, c5, rfl, hl5, ho5, hb5⟩)
      first | go_ret2 | go_ret
      exact ⟨A5, n5, c5, rfl, hl5, own_lower ho5 hI.out.below.size, HPP.out.below hb5, hI.out.below.trans (hb5.mono (Nat.le_trans hB hI.out.below.size)), hI.out.same.trans (Same.below hb5)⟩
end Cib
