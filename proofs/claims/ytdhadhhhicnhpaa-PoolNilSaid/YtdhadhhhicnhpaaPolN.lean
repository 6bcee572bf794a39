/- A pool: New, places, Take. -/
import Derived.Test.YtdhadhhhicnhpaaPolW
set_option linter.unusedVariables false
set_option linter.unusedSimpArgs false
set_option maxRecDepth 20000
namespace Cib
open Go Go.RowKit Go.Proofs
/-- May a pool be of so many places from there on? -/
def plOk (f n : Int) : Bool := decide (0 ≤ f ∧ 1 ≤ n ∧ n ≤ 400 ∧ f + n ≤ 600)
theorem plNew0 (f n : Int) (hf : -9223372036854775808 ≤ f ∧ f ≤ 9223372036854775807) (hn : -9223372036854775808 ≤ n ∧ n ≤ 9223372036854775807) (h : plOk f n = false) (w : World) :
    Calls Try.prog 5 #[.int .i64 f, .int .i64 n] w fun e w' => e = .returned (.pointer none) ∧ w' = w := by
  unfold plOk at h
  have h' : ¬ (0 ≤ f ∧ 1 ≤ n ∧ n ≤ 400 ∧ f + n ≤ 600) := of_decide_eq_false h
  clear h
  by_cases h1 : f < 0
  · go_enter Try.func5, Try.ntmps5
    go_wp2
    go_ret
    exact ⟨rfl, rfl⟩
  by_cases h2 : n < 1
  · go_enter Try.func5, Try.ntmps5
    go_wp2
    go_ret
    exact ⟨rfl, rfl⟩
  by_cases h3 : 400 < n
  · go_enter Try.func5, Try.ntmps5
    go_wp2
    go_ret
    exact ⟨rfl, rfl⟩
  have h4 : 600 - n < f := by omega
  go_enter Try.func5, Try.ntmps5
  go_wp2
  go_ret
  exact ⟨rfl, rfl⟩
set_option maxHeartbeats 1000000 in
theorem plNew (f n : Nat) (hn1 : 1 ≤ n) (hn : n ≤ 400) (hf : f + n ≤ 600) (w : World) :
    Calls Try.prog 5 #[.int .i64 (f : Int), .int .i64 (n : Int)] w fun e w' => ∃ g x, e = .returned (.pointer (some ⟨g, 0, none⟩)) ∧ Pl w' w.heap.size g f x (List.replicate n false) (List.replicate n false) ∧ Below w.heap.size w w' := by
  have HN := Lib.hid fun w => bmNew n (by omega) w
  go_enter Try.func5, Try.ntmps5
  go_wp2_with fail
  refine (HN.out _).mono ?_
  rintro e w1 ⟨g1, A1, c1, rfl, hm1, hb1, hg1⟩
  go_wp2_with fail
  refine (HN.out _).mono ?_
  rintro e w2 ⟨g2, A2, c2, rfl, hm2, hb2, hg2⟩
  obtain ⟨b1, rfl, hbb1, _⟩ := hm1.word (i := 0) (by simp; omega)
  obtain ⟨b2, rfl, hbb2, _⟩ := hm2.word (i := 0) (by simp; omega)
  have hlt1 : b1 < w1.heap.size := (own_block hm1.own).lt
  have hz1 := hb1.size
  have hz2 := hb2.size
  have HM1 := Lib.hid (hm1.below hb2)
  have HM2 := Lib.hid hm2
  have HB := Lib.hid (hb1.via hb2)
  clear hm1 hm2 hb1 hb2
  go_wp2
  go_ret
  refine ⟨w2.heap.size, ⟨0, 0, g1, g2, b1, b2, c1, c2⟩, rfl, ⟨Blk.new _ _ _, HM1.out.alloc _, ?_, by show b1 ≠ b2; omega, by simp, by simpa using hn1, by simpa using hf, by simpa using hn, by omega⟩, HB.out.alloc (by omega) _⟩
  have h3 := HM2.out.alloc (.cells #[.int .u64 0, .int .i64 0, .int .i64 (f : Int), .pointer (some ⟨g1, 0, none⟩), .pointer (some ⟨g2, 0, none⟩)] 50)
  exact ⟨h3.blk, own_lower h3.own hz1, h3.n, (by show w.heap.size ≤ g2; omega)⟩
/-- In the loop of places. -/
structure PcI (w : World) (f : Nat) (L : List Nat) (k : Nat) (A : Option Addr) (c : Nat) (wr : World) : Prop where
  own : wr.ownsRow w.heap.size 3 1 (.slice A k c) k ((L.take k).map fun i => iv (i + f))
  below : Below w.heap.size w wr
set_option maxHeartbeats 1000000 in
theorem plPlaces {w : World} {B g f : Nat} {x : PlP} {O Z : List Bool} (h : Pl w B g f x O Z) (BL : Nat) (A : Option Addr) (n c : Nat) (L : List Nat) (hr : Rd w BL A (L.map iv)) (hBL : BL ≤ w.heap.size) (hn : L.length = n) (hn4 : n ≤ 65536) (hL : ∀ i ∈ L, i ≤ 65536) :
    Calls Try.prog 27 #[.pointer (some ⟨g, 0, none⟩), .slice A n c] w fun e w' => NewI (L.map (· + f)) w e w' := by
  have hfit := h.fits
  have HP := Lib.hid h
  have HR := Lib.hid hr
  have HN := Lib.hid hn
  have HLB := Lib.hid hL
  obtain ⟨i0, hi, hz0, hz1, hz2⟩ := info_parts infoInt
  have hmk : (Instr.makeSlice 27 (.int .i64 0) (.int .i64 (n : Int))).run Try.prog w = .ok (.slice (some ⟨w.heap.size, 0, none⟩) 0 n) (w.alloc (.cells (madeCells #[.int .i64 0] n) 3)) := by
    have := run_make (P := Try.prog) w 27 3 i0 (.int .i64 0) Try.underlying27 hi hz0 .i64 .i64 0 (n : Int) (by omega) (by omega) (by rw [hz2]; omega) (by omega)
    rw [hz1, Nat.mul_one, Int.toNat_natCast] at this
    exact this
  have H0 : Hid (PcI w f L 0 (some ⟨w.heap.size, 0, none⟩) n (w.alloc (.cells (madeCells #[.int .i64 0] n) 3))) := by
    refine Lib.hid ⟨?_, (Below.refl _ _).alloc (Nat.le_refl _) _⟩
    have := own_made w w.heap.size 3 (.int .i64 0) 0 n (Nat.le_refl _) (Nat.zero_le _) (by unfold maxLen; omega)
    simpa using this
  clear h hr hn hL
  go_enter Try.func27, Try.ntmps27
  go_wp2
  go_loopw [5, 13] (fun l i wr => ∃ (k : Nat) (A' : Option Addr) (c' : Nat), l = .slice A' k c' ∧ i = .int .i64 k ∧ k ≤ n ∧ Hid (PcI w f L k A' c' wr)) (fun _ i _ => n - (intOf i).toNat)
  case atStart => exact ⟨0, _, _, rfl, rfl, Nat.zero_le _, H0⟩
  case round =>
    obtain ⟨k, A', c', rfl, rfl, hk, hI⟩ := hrel
    by_cases hlt : k < n
    · have hkL : k < L.length := by rw [HN.out]; exact hlt
      have hB := hI.out.below.size
      have hPr := HP.out.below hI.out.below
      have q2 := hPr.c2
      obtain ⟨ad, rfl, hc⟩ := rd_int (HR.out.below (hI.out.below.mono hBL)) hkL
      have hlk := HLB.out _ (List.getElem_mem hkL)
      have HE : Hid (((L.take k).map fun i => iv (i + f)) ++ [iv (L[k] + f)] = (L.take (k + 1)).map fun i => iv (i + f)) := Lib.hid (by rw [List.take_succ_eq_append_getElem hkL, List.map_append]; rfl)
      have HX : Hid (((L.take k).map fun i => iv (i + f)).length = k) := Lib.hid (by simp; omega)
      generalize L[k] = v at *
      have HO := Lib.hid hI.out.own
      have HBW := Lib.hid hI.out.below
      obtain ⟨vf, hvf⟩ : ∃ vf, v + f = vf := ⟨_, rfl⟩
      have hadd : ((v : Int) + (f : Int)) = (vf : Int) := by omega
      rw [hvf] at HE
      clear hvf
      clear hI hPr hkL
      go_wp2_with (at_builtin; go_loud (refine wpList_app _ rfl (.tmp 17) (.tmp 24) _ rfl w.heap.size 3 i0 _ 8 Try.underlying27 hi hz0 hz1 hz2 rfl A' k c' ((L.take k).map fun i => iv (i + f)) rfl (HO.out.alloc _) _ (some ⟨wr.heap.size, 0, none⟩) 1 1 [iv vf] rfl rfl (Rd.new wr _ _ _ rfl) (iv_one (l := [vf])) (by unfold maxLen; omega) (by omega) (by simp; omega) ?_; intro A1 c1' w1 ho1 hg1 hb1; have HO1 := Lib.hid ho1; have HB1 := Lib.hid hb1; clear ho1 hg1 hb1))
      go_roundw
      case rel =>
        refine ⟨k + 1, A1, c1', rfl, by go_num, hlt, Lib.hid ⟨?_, (HBW.out.alloc hB _).trans HB1.out⟩⟩
        rw [← HE.out]
        exact HO1.out
      case measure => simp [intOf]; omega
    · obtain rfl : k = n := by omega
      have HFT : Hid (L.take k = L) := Lib.hid (List.take_of_length_le (by rw [HN.out]; exact Nat.le_refl _))
      clear hmk
      go_wp2
      go_ret
      have h1 := hI.out.own
      rw [HFT.out] at h1
      exact ⟨A', k, c', rfl, by rw [List.length_map]; exact HN.out, by rw [List.map_map]; exact h1, hI.out.below⟩
end Cib
