/- Looks.Few. -/
import Derived.Test.YtmabmhiombnngaaFrmZ
import Derived.Test.YtmabmhiombnngaaFrmH
set_option linter.unusedVariables false
set_option linter.unusedSimpArgs false
set_option maxRecDepth 40000
namespace Cib
open Go Go.RowKit Go.Proofs
/-- Has a change too much? -/
def bigC (x : CgM) : Bool := decide (60 < x.n ∧ x.n < 400) || (decide (402 < x.n) || decide (100 < x.c.key.size))
def fewR (X : List CgM) : Bool := (X.take 40).all (fun x => !bigC x) && decide (X.length ≤ 30)
theorem fewR_true {X : List CgM} (h : fewR X = true) : X.length ≤ 30 ∧ ∀ x ∈ X, x.n ≤ 402 ∧ x.c.key.size ≤ 100 := by
  unfold fewR at h
  rw [Bool.and_eq_true, decide_eq_true_iff, List.all_eq_true] at h
  refine ⟨h.2, fun x hx => ?_⟩
  rw [List.take_of_length_le (by omega)] at h
  have := h.1 x hx
  unfold bigC at this
  simp at this
  omega
theorem fewR_big {X : List CgM} {p : Nat} (hp : p < X.length) (h4 : p < 40) (hb : bigC X[p] = true) : fewR X = false := by
  have : (X.take 40).all (fun x => !bigC x) = false := by
    rw [List.all_eq_false]
    refine ⟨X[p], ?_, by simp [hb]⟩
    rw [List.mem_iff_getElem]
    exact ⟨p, by rw [List.length_take]; omega, by rw [List.getElem_take]⟩
  unfold fewR
  rw [this]
  rfl
theorem fewR_end {X : List CgM} {p : Nat} (h : (X.take p).all (fun x => !bigC x) = true) (he : X.length ≤ p ∨ 40 ≤ p) : fewR X = decide (X.length ≤ 30) := by
  have : (X.take 40).all (fun x => !bigC x) = true := by
    rw [List.all_eq_true] at h ⊢
    intro x hx
    refine h x ?_
    rcases he with he | he
    · rw [List.take_of_length_le he]
      exact List.mem_of_mem_take hx
    · exact (List.take_subset_take_left X he) hx
  unfold fewR
  rw [this]
  rfl
theorem all_step {X : List CgM} {p : Nat} (h : (X.take p).all (fun x => !bigC x) = true) (hp : p < X.length) (hb : bigC X[p] = false) : (X.take (p + 1)).all (fun x => !bigC x) = true := by
  rw [List.take_succ_eq_append_getElem hp, List.all_append, h]
  simp [hb]
set_option maxHeartbeats 2000000 in
theorem lawFew (k0 : Int) (st : Nat) (A : Option Addr) (n k : Nat) (X : List CgM) (w : World) (h : Rd w w.heap.size A (X.map CgM.row).flatten) (hX : ∀ x ∈ X, x.In w w.heap.size) (hl : X.length = n) (hn : n ≤ k) (hk : k ≤ maxLen) :
    Calls Try.prog 7 #[.int .i64 k0, .agg #[.int .u64 (st : Int), .slice A n k]] w fun e w' => e = .returned (.bool (fewR X)) ∧ Below w.heap.size w w' := by
  have HAL := Lib.hid ((Below.refl w.heap.size w).alloc (Nat.le_refl _) (.cells #[.int .u64 (st : Int), .slice A n k] 25))
  have HM := Lib.hid (Blk.new w 25 #[.int .u64 (st : Int), .slice A n k])
  have HRD := Lib.hid h
  have HXX := Lib.hid hX
  have HL := Lib.hid hl
  unfold maxLen at hk
  obtain ⟨r, hr⟩ : ∃ r, fewR X = r := ⟨_, rfl⟩
  rw [hr]
  have HR := Lib.hid hr
  clear h hX hl hr
  go_enter Try.func7, Try.ntmps7
  go_wp2
  go_loopw [5] (fun i wr => ∃ (p : Nat), i = .int .i64 p ∧ p ≤ n ∧ p ≤ 40 ∧ Hid ((X.take p).all (fun x => !bigC x) = true) ∧ Hid (Below w.heap.size w wr) ∧ Hid (Blk wr w.heap.size 25 #[.int .u64 (st : Int), .slice A n k])) (fun i _ => n - (intOf i).toNat)
  case atStart => exact ⟨0, rfl, Nat.zero_le _, by omega, Lib.hid (by simp), HAL, HM⟩
  case round =>
    clear HAL HM
    obtain ⟨p, rfl, hp, hp4, HP, HB, HK⟩ := hrel
    have m1 := HK.out.cell 1
    simp only [List.getElem?_toArray, List.getElem?_cons_zero, List.getElem?_cons_succ] at m1
    by_cases hlt : p < n ∧ p < 40
    · obtain ⟨hlt, hlt4⟩ := hlt
      have hpl : p < X.length := by rw [HL.out]; exact hlt
      obtain ⟨b, off, rfl, hbB, c0, c1, c2, c3, c4⟩ := cg_at (HRD.out.below HB.out) hpl
      have hx := HXX.out _ (List.getElem_mem hpl)
      have hxc := hx.cap
      have hxm := hx.max
      have hxk := hx.key
      unfold maxLen at hxm hxk
      have HBG := Lib.hid (fewR_big hpl hlt4)
      have HST := Lib.hid (all_step HP.out hpl)
      clear hx
      generalize X[p] = x at *
      obtain ⟨⟨key, dead, ⟨pl, gen, siz⟩⟩, xA, xn, xk⟩ := x
      simp only at c0 c1 c2 c3 c4 hxc hxm hxk
      clear c1 c3 c4 hpl
      by_cases hbig : bigC ⟨⟨key, dead, ⟨pl, gen, siz⟩⟩, xA, xn, xk⟩ = true
      · have hrf := HBG.out hbig
        rw [HR.out] at hrf
        subst hrf
        unfold bigC at hbig
        simp only [Bool.or_eq_true, decide_eq_true_iff] at hbig
        clear HBG HST HR
        rcases hbig with ⟨h1, h2⟩ | h1 | h1
        · go_wp2
          go_ret
          exact ⟨rfl, HB.out⟩
        · have h2 : ¬ xn < 400 := by omega
          have h3 : 60 < xn := by omega
          go_wp2
          go_ret
          exact ⟨rfl, HB.out⟩
        · by_cases h2 : 60 < xn
          · by_cases h3 : xn < 400
            · go_wp2
              go_ret
              exact ⟨rfl, HB.out⟩
            · by_cases h4 : 402 < xn
              · go_wp2
                go_ret
                exact ⟨rfl, HB.out⟩
              · go_wp2
                go_ret
                exact ⟨rfl, HB.out⟩
          · have h4 : ¬ 402 < xn := by omega
            go_wp2
            go_ret
            exact ⟨rfl, HB.out⟩
      · have HS2 := Lib.hid (HST.out (by simpa using hbig))
        unfold bigC at hbig
        simp only [Bool.or_eq_true, decide_eq_true_iff, not_or, not_and] at hbig
        obtain ⟨h1, h4, h5⟩ := hbig
        clear HBG HST HP
        by_cases h2 : 60 < xn
        · have h3 := h1 h2
          clear h1
          go_wp2
          go_roundw
          case rel => exact ⟨p + 1, by go_num, hlt, by omega, HS2, HB, HK⟩
          case measure => simp [intOf]; omega
        · clear h1
          go_wp2
          go_roundw
          case rel => exact ⟨p + 1, by go_num, hlt, by omega, HS2, HB, HK⟩
          case measure => simp [intOf]; omega
    · have he := fewR_end HP.out (by rw [HL.out]; omega)
      rw [HR.out, HL.out] at he
      subst he
      clear HR
      by_cases hpn : p < n
      · have hp40 : ¬ p < 40 := by omega
        clear hlt
        go_wp2
        go_ret
        refine ⟨?_, HB.out⟩
        first | rfl | (refine ret_eq (bool_eq ?_); exact decide_eq_decide.2 (by omega))
      · obtain rfl : p = n := by omega
        clear hlt hpn
        go_wp2
        go_ret
        refine ⟨?_, HB.out⟩
        first | rfl | (refine ret_eq (bool_eq ?_); exact decide_eq_decide.2 (by omega))
end Cib
