/- The document's Free, First, Least: the walks. -/
import Derived.Test.YthdanbpciifieaaBmpH
set_option linter.unusedVariables false
set_option linter.unusedSimpArgs false
set_option maxRecDepth 20000
namespace Bmp
theorem freeTo_le (bs : List Bool) (from_ : Int) (j : Nat) : (freeTo bs from_ j).length ≤ j := by
  unfold freeTo
  exact Nat.le_trans (List.length_filter_le ..) (Nat.le_trans (List.length_filter_le ..) (by simp))
theorem freeTo_zero (bs : List Bool) (from_ : Int) : freeTo bs from_ 0 = [] := rfl
theorem freeTo_push {bs : List Bool} {from_ : Int} {j : Nat} (h1 : bs.getD j true = false) (h2 : from_ ≤ (j : Int)) : freeTo bs from_ (j + 1) = freeTo bs from_ j ++ [j] := by
  rw [freeTo_succ, if_pos ⟨h1, h2⟩]
theorem freeTo_skip {bs : List Bool} {from_ : Int} {j : Nat} (h : ¬ (bs.getD j true = false ∧ from_ ≤ (j : Int))) : freeTo bs from_ (j + 1) = freeTo bs from_ j := by
  rw [freeTo_succ, if_neg h, List.append_nil]
theorem cut_taken {bs : List Bool} {q j : Nat} (h : Cut bs q j) (hj : j < bs.length) (hq : q < (trues bs 0).length) (e : (trues bs 0)[q] = j) : bs.getD j true = true :=
  (trues_cut bs j q h hj).2 ⟨hq, e⟩
theorem cut_free {bs : List Bool} {q j : Nat} (h : Cut bs q j) (hj : j < bs.length) (hm : ∀ hq : q < (trues bs 0).length, (trues bs 0)[q] ≠ j) : bs.getD j true = false := by
  have := (trues_cut bs j q h hj)
  cases hx : bs.getD j true with
  | false => rfl
  | true =>
    obtain ⟨h1, h2⟩ := this.1 hx
    exact absurd h2 (hm h1)
end Bmp
namespace Cib
open Go Go.RowKit Go.Proofs
variable {w w' : World} {base g n c : Nat} {bs : List Bool} {A : Option Addr}
def fstI : List Nat → Int
  | [] => -1
  | x :: _ => (x : Int)
structure FrI (bs : List Bool) (from_ : Int) (w : World) (j q m : Nat) (A : Option Addr) (c : Nat) (wr : World) : Prop where
  cut : Bmp.Cut bs q j
  len : (Bmp.freeTo bs from_ j).length = m
  own : wr.ownsRow w.heap.size 3 1 (.slice A m c) m ((Bmp.freeTo bs from_ j).map iv)
  below : Below w.heap.size w wr
theorem FrI.skip {from_ : Int} {wr : World} {j q q' m : Nat} (h : FrI bs from_ w j q m A c wr) (hc : Bmp.Cut bs q' (j + 1)) (hs : ¬ (bs.getD j true = false ∧ from_ ≤ (j : Int))) : FrI bs from_ w (j + 1) q' m A c wr :=
  ⟨hc, by rw [Bmp.freeTo_skip hs]; exact h.len, by rw [Bmp.freeTo_skip hs]; exact h.own, h.below⟩
theorem FrI.push {from_ : Int} {wr w1 : World} {j q m : Nat} {A1 : Option Addr} {c1 : Nat} (h : FrI bs from_ w j q m A c wr) (hc : Bmp.Cut bs q (j + 1)) (h1 : bs.getD j true = false) (h2 : from_ ≤ (j : Int))
    (ho : w1.ownsRow w.heap.size 3 1 (.slice A1 (m + 1) c1) (m + 1) ((Bmp.freeTo bs from_ j).map iv ++ [iv j])) (hb : Below w.heap.size (wr.alloc (.cells #[iv j] 3)) w1) : FrI bs from_ w (j + 1) q (m + 1) A1 c1 w1 :=
  ⟨hc, by rw [Bmp.freeTo_push h1 h2, List.length_append, h.len]; rfl, by rw [Bmp.freeTo_push h1 h2, List.map_append]; exact ho, (h.below.alloc h.below.size _).trans hb⟩
theorem refFree (h : Rm w base g bs A n c) (from_ : Int) : Calls Try.prog 32 #[.pointer (some ⟨g, 0, none⟩), .int .i64 from_] w fun e w' => NewI (Bmp.freeFrom bs from_) w e w' := by
  have hn := h.hn
  have hlen := h.len
  have hle : n ≤ 65536 := by rw [← hn, Bmp.trues_length]; exact Nat.le_trans (List.count_le_length ..) hlen
  have HM := Lib.hid h
  have HN := Lib.hid hn
  have HF := Lib.hid (Bmp.freeTo_all bs from_)
  obtain ⟨i0, hi, hz0, hz1, hz2⟩ := info_parts infoInt
  obtain ⟨N, HL⟩ : ∃ N, Hid (bs.length = N) := ⟨_, rfl⟩
  rw [HL.out] at hlen HF
  clear h hn
  go_enter Try.func32, Try.ntmps32
  go_wp2
  go_loopw [5, 6, 7] (fun o k i wr => ∃ (j q m : Nat) (A' : Option Addr) (c' : Nat), o = .slice A' m c' ∧ k = .int .i64 q ∧ i = .int .i64 j ∧ j ≤ N ∧ q ≤ n ∧ m ≤ j ∧ Hid (FrI bs from_ w j q m A' c' wr)) (fun _ _ i _ => N - (intOf i).toNat)
  case atStart => exact ⟨0, 0, 0, none, 0, rfl, rfl, rfl, Nat.zero_le _, Nat.zero_le _, Nat.le_refl _, ⟨Bmp.Cut.zero bs, rfl, World.ownsRow_nil _ _ _ _, Below.refl _ _⟩⟩
  case round =>
    obtain ⟨j, q, m, A', c', rfl, rfl, rfl, hj, hq, hm, hI⟩ := hrel
    have hMr := HM.out.below hI.out.below
    have hc0 := hMr.c0
    have hc1 := hMr.c1
    have HMr := Lib.hid hMr
    rw [HL.out] at hc0
    clear hMr
    by_cases hlt : j < N
    · have hjl : j < bs.length := by rw [HL.out]; exact hlt
      have HJ := Lib.hid hjl
      clear hjl
      by_cases hqn : q < n
      · have hqL : q < (Bmp.trues bs 0).length := by rw [HN.out]; exact hqn
        obtain ⟨ad, rfl, hc⟩ := rd_int (Rd.of_own HMr.out.own) hqL
        by_cases he : (Bmp.trues bs 0)[q] = j
        · have ht := Bmp.cut_taken hI.out.cut HJ.out hqL he
          have HX := Lib.hid (hI.out.skip (hI.out.cut.hit hqL he) (fun h => by rw [ht] at h; cases h.1))
          rw [he] at hc
          clear he ht hqL
          go_wp2
          exact ⟨⟨j + 1, q + 1, m, A', c', rfl, by go_num, by go_num, hlt, hqn, by omega, HX⟩, by simp [intOf]; omega⟩
        · have hms : ∀ hq : q < (Bmp.trues bs 0).length, (Bmp.trues bs 0)[q] ≠ j := fun _ => he
          have hcm := hI.out.cut.miss hms
          have hfr := Bmp.cut_free hI.out.cut HJ.out hms
          have hne : (((Bmp.trues bs 0)[q] : Int) == (j : Int)) = false := by simp; omega
          generalize (Bmp.trues bs 0)[q] = y at *
          clear hms
          by_cases hf : from_ ≤ (j : Int)
          · have HP := Lib.hid (fun (A1 : Option Addr) (c1 : Nat) (w1 : World) ho hb => FrI.push (A1 := A1) (c1 := c1) (w1 := w1) hI.out hcm hfr hf ho hb)
            have hB := hI.out.below.size
            have HO := Lib.hid hI.out.own
            have hns : ((Bmp.freeTo bs from_ j).map iv).length = m := by rw [List.length_map]; exact hI.out.len
            clear hcm hfr he hI
            go_wp2_with (at_builtin; refine wpList_app _ rfl (.tmp 39) (.tmp 41) _ rfl w.heap.size 3 i0 _ 8 Try.underlying22 hi hz0 hz1 hz2 rfl A' m c' ((Bmp.freeTo bs from_ j).map iv) rfl (HO.out.alloc _) _ (some ⟨wr.heap.size, 0, none⟩) 1 1 [iv j] rfl rfl (Rd.new wr _ _ _ rfl) (iv_one (l := [j])) (by unfold maxLen; omega) (by omega) (by simp; omega) ?_; intro A1 c1' w1 ho1 hg1 hb1; have HX := Lib.hid (HP.out _ _ _ ho1 hb1); clear hg1 hb1)
            exact ⟨⟨j + 1, q, m + 1, A1, c1', rfl, rfl, by go_num, hlt, hq, by omega, HX⟩, by simp [intOf]; omega⟩
          · have HX := Lib.hid (hI.out.skip hcm (fun h => hf h.2))
            clear hcm hfr he
            go_wp2
            exact ⟨⟨j + 1, q, m, A', c', rfl, rfl, by go_num, hlt, hq, by omega, HX⟩, by simp [intOf]; omega⟩
      · have hms : ∀ hq : q < (Bmp.trues bs 0).length, (Bmp.trues bs 0)[q] ≠ j := fun h => absurd (by rw [HN.out] at h; exact h) hqn
        have hcm := hI.out.cut.miss hms
        have hfr := Bmp.cut_free hI.out.cut HJ.out hms
        clear hms
        by_cases hf : from_ ≤ (j : Int)
        · have HP := Lib.hid (fun (A1 : Option Addr) (c1 : Nat) (w1 : World) ho hb => FrI.push (A1 := A1) (c1 := c1) (w1 := w1) hI.out hcm hfr hf ho hb)
          have hB := hI.out.below.size
          have HO := Lib.hid hI.out.own
          have hns : ((Bmp.freeTo bs from_ j).map iv).length = m := by rw [List.length_map]; exact hI.out.len
          clear hcm hfr hI
          go_wp2_with (at_builtin; refine wpList_app _ rfl (.tmp 39) (.tmp 41) _ rfl w.heap.size 3 i0 _ 8 Try.underlying22 hi hz0 hz1 hz2 rfl A' m c' ((Bmp.freeTo bs from_ j).map iv) rfl (HO.out.alloc _) _ (some ⟨wr.heap.size, 0, none⟩) 1 1 [iv j] rfl rfl (Rd.new wr _ _ _ rfl) (iv_one (l := [j])) (by unfold maxLen; omega) (by omega) (by simp; omega) ?_; intro A1 c1' w1 ho1 hg1 hb1; have HX := Lib.hid (HP.out _ _ _ ho1 hb1); clear hg1 hb1)
          exact ⟨⟨j + 1, q, m + 1, A1, c1', rfl, rfl, by go_num, hlt, hq, by omega, HX⟩, by simp [intOf]; omega⟩
        · have HX := Lib.hid (hI.out.skip hcm (fun h => hf h.2))
          clear hcm hfr
          go_wp2
          exact ⟨⟨j + 1, q, m, A', c', rfl, rfl, by go_num, hlt, hq, by omega, HX⟩, by simp [intOf]; omega⟩
    · obtain rfl : j = N := by omega
      have h1 := hI.out.len
      have h2 := hI.out.own
      rw [HF.out] at h1 h2
      have H1 := Lib.hid h1
      have H2 := Lib.hid h2
      have H3 := Lib.hid hI.out.below
      clear h1 h2 hI
      go_wp2
      go_ret
      exact ⟨A', m, c', rfl, H1.out, H2.out, H3.out⟩
theorem refFirst (h : Rm w base g bs A n c) (from_ : Int) : Calls Try.prog 19 #[.pointer (some ⟨g, 0, none⟩), .int .i64 from_] w fun e w' => e = .returned (.int .i64 (fstI (Bmp.freeFrom bs from_))) ∧ Below w.heap.size w w' := by
  have HF := Lib.hid (refFree h from_)
  generalize Bmp.freeFrom bs from_ = F at *
  clear h
  go_enter Try.func19, Try.ntmps19
  go_wp2_with fail
  refine HF.out.mono ?_
  rintro e w1 ⟨A1, m, c1, rfl, hl, ho, hb⟩
  have hr := Rd.of_own ho
  clear ho HF
  cases F with
  | nil =>
    subst hl
    clear hr
    go_wp2
    go_ret
    exact ⟨rfl, hb⟩
  | cons x l =>
    obtain ⟨ad, rfl, hc⟩ := rd_int hr (k := 0) (by simp)
    have hm : 1 ≤ m := by rw [← hl]; simp
    have hne : ((m : Int) == 0) = false := by simp; omega
    rw [List.getElem_cons_zero, show ad.add 0 = ad from rfl] at hc
    clear hr hl
    go_wp2
    go_ret
    exact ⟨rfl, hb⟩
end Cib
