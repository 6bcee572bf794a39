/- The document's Run, Least: the walks. -/
import Derived.Test.YthdanbpciifieaaBmpJ
set_option linter.unusedVariables false
set_option linter.unusedSimpArgs false
set_option maxRecDepth 20000
namespace Bmp
theorem freeFrom_length (bs : List Bool) (from_ : Int) : (freeFrom bs from_).length ≤ bs.length := by
  have h1 : (freeFrom bs from_).length ≤ (free bs 0).length := List.length_filter_le ..
  have h2 := free_length bs 0
  omega
theorem freeFrom_lt {bs : List Bool} {from_ : Int} {x : Nat} (h : x ∈ freeFrom bs from_) : x < bs.length := by
  by_cases hx : x < bs.length
  · exact hx
  · have := (freeFrom_mem.1 h).1
    rw [List.getD, List.getElem?_eq_none (by omega)] at this
    cases this
theorem runL_step {m : Nat} {l : List Nat} {j : Nat} (h : j < l.length) : runL m (l.drop j) = if (l.drop j)[m - 1]? = some (l[j] + m - 1) then (l[j] : Int) else runL m (l.drop (j + 1)) := by
  rw [List.drop_eq_getElem_cons h, runL]
end Bmp
namespace Cib
open Go Go.RowKit Go.Proofs
variable {w w' : World} {base g n c : Nat} {bs : List Bool} {A : Option Addr}
theorem refRun (h : Rm w base g bs A n c) (from_ many : Int) (hm : -9223372036854775808 ≤ many ∧ many ≤ 9223372036854775807) :
    Calls Try.prog 20 #[.pointer (some ⟨g, 0, none⟩), .int .i64 from_, .int .i64 many] w fun e w' => e = .returned (.int .i64 (Bmp.runF bs from_ many)) ∧ Below w.heap.size w w' := by
  have hlen := h.len
  have HF := Lib.hid (refFree h from_)
  have hfl := Bmp.freeFrom_length bs from_
  clear h
  by_cases h1 : many < 1
  · have e : Bmp.runF bs from_ many = -1 := if_pos h1
    rw [e]
    generalize Bmp.freeFrom bs from_ = F at *
    have hd : decide (many ≥ 1) = false := by simp; omega
    have hd2 : decide ((1 : Int) ≤ many) = false := by simp; omega
    go_enter Try.func20, Try.ntmps20
    go_wp2_with fail
    refine HF.out.mono ?_
    rintro e w1 ⟨A1, m, c1, rfl, hl, ho, hb⟩
    have hmm : m ≤ 65536 := by omega
    clear ho HF hl hfl
    go_wp2
    go_loopw [8] (fun k wr => k = .int .i64 0 ∧ wr = w1) (fun _ _ => 0)
    case atStart => exact ⟨rfl, by first | rfl | trivial⟩
    case round =>
      obtain ⟨rfl, rfl⟩ := hrel
      by_cases h0 : 0 < m
      · go_wp2
        go_ret
        exact ⟨rfl, hb⟩
      · go_wp2
        go_ret
        exact ⟨rfl, hb⟩
  · obtain ⟨K, rfl⟩ : ∃ k : Nat, many = ((k + 1 : Nat) : Int) := ⟨(many - 1).toNat, by omega⟩
    rw [Bmp.runF_eq]
    have hK : 1 ≤ K + 1 := by omega
    have HFB : Hid (∀ x ∈ Bmp.freeFrom bs from_, x ≤ 65536) := fun x hx => by have := Bmp.freeFrom_lt hx; omega
    generalize K + 1 = K at *
    generalize Bmp.freeFrom bs from_ = F at *
    obtain ⟨R, HR⟩ : ∃ R, Hid (Bmp.runL K F = R) := ⟨_, rfl⟩
    rw [HR.out]
    go_enter Try.func20, Try.ntmps20
    go_wp2_with fail
    refine HF.out.mono ?_
    rintro e w1 ⟨A1, m, c1, rfl, hl, ho, hb⟩
    have hmm : m ≤ 65536 := by omega
    have HL := Lib.hid hl
    have HRd := Lib.hid (Rd.of_own ho)
    have HB := Lib.hid hb
    clear ho HF hl hfl hb
    go_wp2
    go_loopw [8] (fun k wr => ∃ j : Nat, j ≤ m ∧ k = .int .i64 j ∧ Hid (Bmp.runL K (F.drop j) = R) ∧ Hid (Below w1.heap.size w1 wr)) (fun k _ => m - (intOf k).toNat)
    case atStart => exact ⟨0, Nat.zero_le _, rfl, HR, Below.refl _ _⟩
    case round =>
      obtain ⟨j, hj, rfl, hR, hbr⟩ := hrel
      by_cases hlt : j < m
      · by_cases hK2 : K ≤ m - j
        · have hjF : j < F.length := by rw [HL.out]; exact hlt
          have hpF : j + K - 1 < F.length := by rw [HL.out]; omega
          have hrd := HRd.out.below hbr.out
          obtain ⟨ad, rfl, hc⟩ := rd_int hrd hjF
          obtain ⟨ad', he, hc'⟩ := rd_int hrd hpF
          injection he with he
          subst he
          have hst := hR.out
          rw [Bmp.runL_step hjF, List.getElem?_drop, show j + (K - 1) = j + K - 1 from by omega, List.getElem?_eq_getElem hpF] at hst
          have HST := Lib.hid hst
          have HB2 := Lib.hid (HB.out.via hbr.out)
          obtain ⟨P, hP⟩ : ∃ P, j + K - 1 = P := ⟨_, rfl⟩
          simp only [hP] at hc' HST
          clear hst hR hrd
          have hpi : (j : Int) + (K : Int) - 1 = (P : Int) := by omega
          have hPm : P < m := by omega
          simp only [hP] at hpF
          have hxb := HFB.out _ (List.getElem_mem hjF)
          generalize F[P] = y at *
          generalize F[j] = x at *
          have hdK : decide ((1 : Int) ≤ (K : Int)) = true := by simp; omega
          have hdK2 : decide ((K : Int) ≤ (m : Int) - (j : Int)) = true := by simp; omega
          clear hP hpF hjF
          by_cases hxy : y = x + K - 1
          · subst hxy
            have hR2 := HST.out
            rw [if_pos rfl] at hR2
            subst hR2
            have hcast : ((x + K - 1 : Nat) : Int) = (x : Int) + (K : Int) - 1 := by omega
            rw [hcast] at hc'
            clear HR HST hcast
            go_upto_region 5 with fail
            go_region
            all_goals (try go_wp2)
            all_goals
              go_ret
              exact ⟨rfl, below_drewN HB2.out 1⟩
          · have hR2 := HST.out
            rw [if_neg (by intro e; injection e with e; exact hxy e)] at hR2
            have HR2 := Lib.hid hR2
            have hne : ((y : Int) == (x : Int) + (K : Int) - 1) = false := by simp; omega
            clear HR HST hR2
            go_upto_region 5 with fail
            go_region
            all_goals (try go_wp2)
            all_goals exact ⟨⟨j + 1, hlt, by go_num, HR2, below_drewN hbr.out 1⟩, by simp [intOf]; omega⟩
        · have hR2 : R = -1 := by
            rw [← hR.out, Bmp.runL_short]
            rw [List.length_drop, HL.out]
            omega
          subst hR2
          have HB2 := Lib.hid (HB.out.via hbr.out)
          have hdK : decide ((1 : Int) ≤ (K : Int)) = true := by simp; omega
          have hdK2 : decide ((K : Int) ≤ (m : Int) - (j : Int)) = false := by simp; omega
          clear HR hR
          go_wp2
          go_ret
          exact ⟨rfl, HB2.out⟩
      · have hR2 : R = -1 := by
          rw [← hR.out, List.drop_eq_nil_of_le (by rw [HL.out]; omega)]
          rfl
        subst hR2
        have HB2 := Lib.hid (HB.out.via hbr.out)
        clear HR hR
        go_wp2
        go_ret
        exact ⟨rfl, HB2.out⟩
theorem sizeInt : (Try.prog.info? 3).map (·.size) = some 1 := by kernel_rfl
/-- What a call answers that hands out a part of a slice of numbers. -/
def PartI (L : List Nat) (w : World) (e : Ending) (w' : World) : Prop :=
  ∃ A n c, e = .returned (.slice A n c) ∧ L.length = n ∧ Rd w' w'.heap.size A (L.map iv) ∧ Below w.heap.size w w'
theorem refLeast (h : Rm w base g bs A n c) (many : Int) (hm : -9223372036854775808 ≤ many ∧ many ≤ 9223372036854775807) :
    Calls Try.prog 22 #[.pointer (some ⟨g, 0, none⟩), .int .i64 many] w fun e w' => PartI (Bmp.leastF bs many) w e w' := by
  have hlen := h.len
  have HF := Lib.hid (refFree h 0)
  have hfl := Bmp.freeFrom_length bs 0
  rw [Bmp.leastF_eq]
  clear h
  generalize Bmp.freeFrom bs 0 = F at *
  obtain ⟨R, HR⟩ : ∃ R, Hid ((if many < 1 ∨ many > (F.length : Int) then [] else F.take many.toNat) = R) := ⟨_, rfl⟩
  rw [HR.out]
  go_enter Try.func22, Try.ntmps22
  go_wp2_with fail
  refine HF.out.mono ?_
  rintro e w1 ⟨A1, m, c1, rfl, hl, ho, hb⟩
  have hmm : m ≤ 65536 := by omega
  have hcap := (own_cap ho).1
  have HL := Lib.hid hl
  have HRd := Lib.hid (Rd.of_own ho)
  clear ho HF hl hfl
  rw [HL.out] at HR
  by_cases h1 : many < 1
  · obtain rfl : R = [] := by rw [← HR.out, if_pos (.inl h1)]
    clear HR
    go_wp2
    go_ret
    exact ⟨none, 0, 0, rfl, rfl, Rd.nil _ _ _, hb⟩
  · obtain ⟨K, rfl⟩ : ∃ k : Nat, many = (k : Int) := ⟨many.toNat, by omega⟩
    by_cases h2 : m < K
    · obtain rfl : R = [] := by rw [← HR.out, if_pos (.inr (by omega))]
      clear HR
      go_wp2
      go_ret
      exact ⟨none, 0, 0, rfl, rfl, Rd.nil _ _ _, hb⟩
    · have HR2 : Hid (F.take K = R) := by (show _ = _; rw [← HR.out, if_neg (by omega), Int.toNat_natCast])
      have hsl := fun W : World => run_cut_to (P := Try.prog) 22 3 Try.underlying22 sizeInt A1 m c1 K .i64 (by omega) W
      clear HR
      go_wp2
      go_ret
      refine ⟨A1, K, c1, rfl, ?_, ?_, hb⟩
      · rw [← HR2.out, List.length_take, HL.out]
        omega
      · rw [← HR2.out, List.map_take]
        exact HRd.out.take K
end Cib
