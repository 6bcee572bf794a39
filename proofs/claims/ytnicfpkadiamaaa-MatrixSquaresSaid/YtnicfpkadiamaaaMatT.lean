/- What twice does: a byte that stands twice in rows. -/
import Derived.Test.YtnicfpkadiamaaaMatW
import Derived.Test.YtnicfpkadiamaaaRowsB
set_option linter.unusedVariables false
set_option linter.unusedSimpArgs false
set_option maxRecDepth 40000
namespace Cib
open Go Go.RowKit Go.Proofs
/-- The cells of the bytes that were met. -/
def metC (s : List UInt8) : Array Value := ((List.range 256).map fun v => Value.bool (decide (UInt8.ofNat v ∈ s))).toArray
theorem metC_get (s : List UInt8) (c : UInt8) : (metC s)[c.toNat]? = some (.bool (decide (c ∈ s))) := by
  have h := c.toNat_lt
  have h2 : c.toNat < 256 := h
  simp [metC, h2]
theorem metC_set (s : List UInt8) (c : UInt8) : (metC s).setIfInBounds c.toNat (.bool true) = metC (s ++ [c]) := by
  apply Array.ext
  · simp [metC]
  · intro i h1 h2
    have hi : i < 256 := by simpa [metC] using h2
    rw [Array.getElem_setIfInBounds (by simpa [metC] using hi)]
    by_cases hc : c.toNat = i
    · subst hc
      simp [metC]
    · rw [if_neg hc]
      have hne : ¬ UInt8.ofNat i = c := by
        intro e
        apply hc
        rw [← e, UInt8.toNat_ofNat']
        exact Nat.mod_eq_of_lt hi
      simp [metC, hne]
theorem metC_nil : metC [] = Array.replicate 256 (.bool false) := by
  apply Array.ext
  · simp [metC]
  · intro i h1 h2
    simp [metC]
/-- The bytes of rows, one behind the other. -/
def flat (L : List RowB) : List UInt8 := L.flatMap (·.bs)
theorem flat_take {L : List RowB} {i : Nat} (h : i < L.length) : flat (L.take (i + 1)) = flat (L.take i) ++ L[i].bs := by
  unfold flat
  rw [List.take_succ_eq_append_getElem h, List.flatMap_append]
  simp
theorem flat_all (L : List RowB) : flat (L.take L.length) = flat L := by rw [List.take_length]
theorem dup_split {l r : List UInt8} (h : ¬ l.Nodup) : ¬ (l ++ r).Nodup := fun h' => h (List.nodup_append.1 h').1
theorem flat_split (L : List RowB) (i : Nat) : flat L = flat (L.take i) ++ flat (L.drop i) := by
  unfold flat
  rw [← List.flatMap_append, List.take_append_drop]
theorem nodup_snoc {l : List UInt8} {c : UInt8} (h : l.Nodup) (hc : c ∉ l) : (l ++ [c]).Nodup := by
  rw [List.nodup_append]
  refine ⟨h, by simp, ?_⟩
  intro a ha b hb
  rw [List.mem_singleton] at hb
  subst hb
  intro e
  subst e
  exact hc ha
theorem nodup_hit {l r : List UInt8} {c : UInt8} (hc : c ∈ l) : ¬ (l ++ c :: r).Nodup := by
  intro h
  rw [List.nodup_append] at h
  exact h.2.2 c hc c (by simp) rfl
theorem matTwice (L : List RowB) (B : Nat) (A : Option Addr) (n k : Nat) (w : World) (hr : Rd w B A (L.map RowB.v)) (hR : RowsAt w B L) (hB : B ≤ w.heap.size) (hn : L.length = n) (hn2 : n ≤ 1000000) (hm : ∀ r ∈ L, r.n ≤ 1000000000) :
    Calls Try.prog 44 #[.slice A n k] w fun e w' => (∃ x, e = .returned (.bool x) ∧ (x = false ↔ (flat L).Nodup)) ∧ Below w.heap.size w w' := by
  have HR := Lib.hid hr
  have HRR := Lib.hid hR
  have HL := Lib.hid hn
  have HM := Lib.hid hm
  clear hr hR hn hm
  go_enter Try.func44, Try.ntmps44
  go_wp2
  have hz : Try.zeroCells91 = metC [] := by kernel_rfl
  go_loopw [5, 7, 10] (fun _ _ i wr => ∃ p : Nat, i = .int .i64 p ∧ p ≤ n ∧ Hid ((flat (L.take p)).Nodup) ∧ Hid (Blk wr w.heap.size 91 (metC (flat (L.take p)))) ∧ Hid (Below w.heap.size w wr)) (fun _ _ i _ => n - (intOf i).toNat)
  case atStart =>
    refine ⟨0, rfl, Nat.zero_le _, by (show List.Nodup _; simp [flat]), ?_, (Below.refl _ _).alloc (Nat.le_refl _) _⟩
    show Blk _ _ _ _
    rw [hz]
    exact Blk.new _ _ _
  case round =>
    obtain ⟨p, rfl, hp, hnd, hbk, hbl⟩ := hrel
    clear hz
    by_cases hlt : p < n
    · have hpl : p < L.length := by rw [HL.out]; exact hlt
      obtain ⟨ad, rfl, hab, hcell⟩ := (HR.out.below (hbl.out.mono hB)).row hpl
      have hRp := HRR.out.get hpl
      have hmp := HM.out _ (List.getElem_mem hpl)
      have HFT := Lib.hid (flat_take hpl)
      have HSP := Lib.hid (flat_split L (p + 1))
      have hlen := hRp.len
      have HRP := Lib.hid hRp.rd
      clear hRp
      generalize L[p] = r at *
      obtain ⟨rA, rn, rc, bs⟩ := r
      simp only at hcell hmp hlen HFT HRP
      have HLEN := Lib.hid hlen
      clear hlen
      generalize flat (L.take p) = s at *
      go_wp2
      go_loopw [7, 16] (fun _ i w2 => ∃ q : Nat, i = .int .i64 q ∧ q ≤ rn ∧ Hid ((s ++ bs.take q).Nodup) ∧ Hid (Blk w2 w.heap.size 91 (metC (s ++ bs.take q))) ∧ Hid (Below w.heap.size w w2)) (fun _ i _ => rn - (intOf i).toNat)
      case atStart => exact ⟨0, rfl, Nat.zero_le _, by simpa using hnd, by simpa using hbk, hbl⟩
      case round =>
        obtain ⟨q, rfl, hq, hnd2, hbk2, hbl2⟩ := hrel
        by_cases hlq : q < rn
        · have hql : q < bs.length := by rw [HLEN.out]; exact hlq
          have HT := Lib.hid (List.take_succ_eq_append_getElem hql)
          obtain ⟨ad2, rfl, hab2, hcell2⟩ := (HRP.out.below (hbl2.out.mono hB)).byte hql
          have hmc := (hbk2.out.cell bs[q].toNat).trans (metC_get _ _)
          have hfr := hbk2.out.frozen bs[q].toNat
          have hc8 := bs[q].toNat_lt
          have HDR := Lib.hid (List.drop_eq_getElem_cons hql)
          have HS := Lib.hid (hbk2.out.set bs[q].toNat (.bool true))
          rw [metC_set, List.append_assoc] at HS
          have HB := Lib.hid (hbl2.out.setCell (p := ⟨w.heap.size, bs[q].toNat, none⟩) (Nat.le_refl _) (.bool true))
          by_cases hin : bs[q] ∈ s ++ bs.take q
          · rw [decide_eq_true hin] at hmc
            have HIN := Lib.hid hin
            clear hin
            go_wp2
            go_ret
            refine ⟨⟨true, rfl, ?_⟩, hbl2.out⟩
            simp only [Bool.true_eq_false, false_iff]
            rw [HSP.out, HFT.out]
            refine dup_split ?_
            rw [← List.take_append_drop q bs, HDR.out, ← List.append_assoc]
            exact nodup_hit HIN.out
          · rw [decide_eq_false hin] at hmc
            have HND := Lib.hid (nodup_snoc hnd2.out hin)
            clear hin
            go_wp2
            go_roundw
            case rel => exact ⟨q + 1, by go_num, hlq, by (show List.Nodup _; rw [HT.out, ← List.append_assoc]; exact HND.out), by (show Blk _ _ _ _; rw [HT.out]; exact HS.out), HB⟩
            case measure => simp [intOf]; omega
        · obtain rfl : q = rn := by omega
          have HTA : Hid (bs.take q = bs) := (show _ = _ from List.take_of_length_le (by rw [HLEN.out]; exact Nat.le_refl _))
          rw [HTA.out, ← HFT.out] at hnd2 hbk2
          go_wp2
          go_roundw
          case rel => exact ⟨p + 1, by go_num, hlt, hnd2, hbk2, hbl2⟩
          case measure => simp [intOf]; omega
    · obtain rfl : p = n := by omega
      have HFA : Hid (flat (L.take p) = flat L) := (show _ = _ by rw [← HL.out]; exact flat_all L)
      rw [HFA.out] at hnd
      go_wp2
      go_ret
      exact ⟨⟨false, rfl, by simpa using hnd.out⟩, hbl.out⟩
end Cib
