/- A pool: Settle, Taken. -/
import Derived.Test.YtdhadhhhicnhpaaPolG
set_option linter.unusedVariables false
set_option linter.unusedSimpArgs false
set_option maxRecDepth 20000
namespace Bmp
def clrN (bs : List Bool) (L : List Nat) : List Bool := L.foldl (fun b x => b.set x false) bs
theorem clrN_length (L : List Nat) : ∀ bs, (clrN bs L).length = bs.length := by
  induction L with
  | nil => intro bs; rfl
  | cons x L ih => intro bs; exact (ih _).trans (by simp)
theorem clrN_take {bs : List Bool} {L : List Nat} {k : Nat} (h : k < L.length) : clrN bs (L.take (k + 1)) = (clrN bs (L.take k)).set L[k] false := by
  unfold clrN
  rw [List.take_succ_eq_append_getElem h, List.foldl_append]
  rfl
theorem clrN_get (L : List Nat) : ∀ (bs : List Bool) (x : Nat), (clrN bs L).getD x false = (bs.getD x false && !decide (x ∈ L)) := by
  induction L with
  | nil => intro bs x; simp [clrN]
  | cons y L ih =>
    intro bs x
    have : clrN bs (y :: L) = clrN (bs.set y false) L := rfl
    rw [this, ih]
    by_cases hxy : x = y
    · subst hxy
      by_cases hx : x < bs.length
      · simp [List.getD, hx]
      · rw [List.set_eq_of_length_le (by omega)]
        simp [List.getD, List.getElem?_eq_none (show bs.length ≤ x by omega)]
    · have : (bs.set y false).getD x false = bs.getD x false := by simp [List.getD, List.getElem?_set_ne (Ne.symm hxy)]
      rw [this]
      simp [hxy]
/-- Those out that aren't in limbo. -/
def outs (O Z : List Bool) : List Nat := (trues O 0).filter fun i => !Z.getD i false
end Bmp
namespace Cib
open Go Go.RowKit Go.Proofs
/-- In the loop of Settle. -/
structure StI (w : World) (B g f : Nat) (x : PlP) (O Z : List Bool) (L : List Nat) (A : Option Addr) (m c k : Nat) (wr : World) : Prop where
  pl : Pl wr B g f x (Bmp.clrN O (L.take k)) (Bmp.clrN Z (L.take k))
  own : wr.ownsRow w.heap.size 3 1 (.slice A m c) m (L.map iv)
  below : Below B w wr
  same : Same [28] w wr
set_option maxHeartbeats 1000000 in
theorem plSettle {w : World} {B g f : Nat} {x : PlP} {O Z : List Bool} (h : Pl w B g f x O Z) (hB : B ≤ w.heap.size) :
    Calls Try.prog 13 #[.pointer (some ⟨g, 0, none⟩)] w fun e w' => e = .returned (.int .i64 (Z.count true : Int)) ∧ Pl w' B g f x (Bmp.clrN O (Bmp.trues Z 0)) (Bmp.clrN Z (Bmp.trues Z 0)) ∧ Below B w w' ∧ Same [28] w w' := by
  have HP := Lib.hid h
  have HNO := Lib.hid (plNone h)
  have h40 := h.many
  have HLT : Hid (∀ i ∈ Bmp.trues Z 0, i < O.length) := Lib.hid fun i hi => by rw [← h.len]; exact Bmp.trues_lt hi
  have HLE := Lib.hid (bmList h.ml)
  have HCT := Lib.hid (Bmp.trues_length Z 0)
  have hcl : Z.count true ≤ O.length := by rw [← h.len]; exact List.count_le_length ..
  rw [← HCT.out] at hcl ⊢
  generalize Bmp.trues Z 0 = L at *
  have c4 := h.c4
  clear h
  go_enter Try.func13, Try.ntmps13
  go_wp2_with (first | (go_at_call 24; refine HNO.out.mono ?_; rintro e w' ⟨rfl, rfl⟩))
  refine HLE.out.mono ?_
  rintro e w3 ⟨A, m, c, rfl, hLm, ho3, hb3⟩
  have HLM := Lib.hid hLm
  have hmO : m ≤ 400 := by omega
  have H0 : Hid (StI w' B g f x O Z L A m c 0 w3) := Lib.hid ⟨by rw [List.take_zero]; exact HP.out.below hb3, ho3, hb3.mono hB, Same.below hb3⟩
  clear hLm ho3 hb3 c4
  go_wp2
  go_loopw [15] (fun i wr => ∃ k : Nat, i = .int .i64 k ∧ k ≤ m ∧ Hid (StI w' B g f x O Z L A m c k wr)) (fun i _ => m - (intOf i).toNat)
  case atStart => exact ⟨0, rfl, Nat.zero_le _, H0⟩
  case round =>
    obtain ⟨k, rfl, hk, hI⟩ := hrel
    by_cases hlt : k < m
    · have hkL : k < L.length := by rw [HLM.out]; exact hlt
      obtain ⟨ad, rfl, hc⟩ := rd_int (Rd.of_own hI.out.own) hkL
      have hvO := HLT.out _ (List.getElem_mem hkL)
      have HST := Lib.hid (plSetL hI.out.pl L[k] (by rw [Bmp.clrN_length]; exact hvO) false)
      have HZ := Lib.hid (Bmp.clrN_take (bs := Z) hkL)
      have HOO := Lib.hid (Bmp.clrN_take (bs := O) hkL)
      rw [← HZ.out] at HST
      generalize L[k] = v at *
      have c4 := hI.out.pl.c4
      clear hkL
      go_wp2_with fail
      refine HST.out.mono ?_
      rintro e w4 ⟨⟨r, rfl⟩, hp4, hb4, hs4⟩
      have c3 := hp4.c3
      have HS5 := Lib.hid (plSetO hp4 v (by rw [Bmp.clrN_length]; exact hvO) false)
      rw [← HOO.out] at HS5
      clear hp4
      go_wp2_with fail
      refine HS5.out.mono ?_
      rintro e w5 ⟨⟨r, rfl⟩, hp5, hb5, hs5⟩
      go_wp2
      go_roundw
      case rel => exact ⟨k + 1, by go_num, hlt, Lib.hid ⟨hp5, own_same hI.out.own (hs4.trans hs5) (by decide), (hI.out.below.trans hb4).trans hb5, (hI.out.same.trans hs4).trans hs5⟩⟩
      case measure => simp [intOf]; omega
    · obtain rfl : k = m := by omega
      have HFT : Hid (L.take k = L) := Lib.hid (List.take_of_length_le (by rw [HLM.out]; exact Nat.le_refl _))
      have hp := hI.out.pl
      rw [HFT.out] at hp
      have HPP := Lib.hid hp
      clear hp
      go_wp2
      go_ret
      exact ⟨by rw [HLM.out]; rfl, HPP.out, hI.out.below, hI.out.same⟩
theorem filter_snoc {α : Type} (p : α → Bool) (l : List α) (k : Nat) (h : k < l.length) : (l.take (k + 1)).filter p = (l.take k).filter p ++ (if p l[k] then [l[k]] else []) := by
  rw [List.take_succ_eq_append_getElem h, List.filter_append]
  by_cases hp : p l[k] = true
  · simp [hp]
  · simp [hp]
/-- In the loop of Taken. -/
structure TaI (w : World) (Z : List Bool) (L : List Nat) (Al : Option Addr) (ml cl : Nat) (k j : Nat) (A : Option Addr) (c : Nat) (wr : World) : Prop where
  len : ((L.take k).filter fun i => !Z.getD i false).length = j
  own : wr.ownsRow w.heap.size 3 1 (.slice A j c) j (((L.take k).filter fun i => !Z.getD i false).map iv)
  rd : Rd wr w.heap.size Al (L.map iv)
  below : Below w.heap.size w wr
set_option maxHeartbeats 1000000 in
theorem plTaken {w : World} {B g f : Nat} {x : PlP} {O Z : List Bool} (h : Pl w B g f x O Z) :
    Calls Try.prog 16 #[.pointer (some ⟨g, 0, none⟩)] w fun e w' => NewI ((Bmp.outs O Z).map (· + f)) w e w' := by
  have HP := Lib.hid h
  have HNO := Lib.hid (plNone h)
  have h40 := h.many
  have HLT : Hid (∀ i ∈ Bmp.trues O 0, i < Z.length) := Lib.hid fun i hi => by rw [h.len]; exact Bmp.trues_lt hi
  have hzo : Z.length ≤ 400 := by rw [h.len]; exact h40
  have HLE := Lib.hid (bmList h.mo)
  have HCT := Lib.hid (Bmp.trues_length O 0)
  have hcl : O.count true ≤ O.length := List.count_le_length ..
  rw [← HCT.out] at hcl
  unfold Bmp.outs
  generalize Bmp.trues O 0 = L at *
  have c3 := h.c3
  obtain ⟨i0, hi, hz0, hz1, hz2⟩ := info_parts infoInt
  clear h HCT
  go_enter Try.func16, Try.ntmps16
  go_wp2_with (first | (go_at_call 24; refine HNO.out.mono ?_; rintro e w' ⟨rfl, rfl⟩))
  refine HLE.out.mono ?_
  rintro e w3 ⟨Al, m, cl, rfl, hLm, ho3, hb3⟩
  have HLM := Lib.hid hLm
  have hmO : m ≤ 400 := by omega
  have H0 : Hid (TaI w3 Z L Al m cl 0 0 none 0 w3) := Lib.hid ⟨rfl, World.ownsRow_nil _ _ _ _, Rd.of_own ho3, Below.refl _ _⟩
  have HP3 := Lib.hid (HP.out.below hb3)
  have HB3 := Lib.hid hb3
  have hz3 := hb3.size
  clear hLm ho3 hb3 c3
  go_wp2
  go_loopw [3, 14] (fun l i wr => ∃ (k j : Nat) (A : Option Addr) (c : Nat), l = .slice A j c ∧ i = .int .i64 k ∧ k ≤ m ∧ j ≤ k ∧ Hid (TaI w3 Z L Al m cl k j A c wr)) (fun _ i _ => m - (intOf i).toNat)
  case atStart => exact ⟨0, 0, none, 0, rfl, rfl, Nat.zero_le _, Nat.le_refl _, H0⟩
  case round =>
    obtain ⟨k, j, A, c, rfl, rfl, hk, hjk, hI⟩ := hrel
    by_cases hlt : k < m
    · have hkL : k < L.length := by rw [HLM.out]; exact hlt
      obtain ⟨ad, rfl, hc⟩ := rd_int hI.out.rd hkL
      have hvZ := HLT.out _ (List.getElem_mem hkL)
      have hPr := HP3.out.below hI.out.below
      have HHA := Lib.hid (bmHas hPr.ml (L[k] : Int))
      rw [Bmp.has_in hvZ] at HHA
      have HFS := Lib.hid (filter_snoc (fun i => !Z.getD i false) L k hkL)
      have hgd : Z.getD L[k] false = Z[L[k]]'hvZ := by simp [List.getD, hvZ]
      rw [hgd] at HFS
      generalize Z[L[k]]'hvZ = r at *
      have c4 := hPr.c4
      have hB := hI.out.below.size
      have HO := Lib.hid hI.out.own
      have HLL := Lib.hid hI.out.len
      have hns : (((L.take k).filter fun i => !Z.getD i false).map iv).length = j := by rw [List.length_map]; exact HLL.out
      have HNS := Lib.hid hns
      generalize L[k] = v at *
      clear hkL hPr hns
      cases r
      · go_wp2_with (first | (go_at_call 34; refine HHA.out.mono ?_; rintro e w4 ⟨rfl, rfl⟩) | (at_builtin; go_loud (refine wpList_app _ rfl (.tmp 25) (.tmp 27) _ rfl w3.heap.size 3 i0 _ 8 Try.underlying27 hi hz0 hz1 hz2 rfl A j c (((L.take k).filter fun i => !Z.getD i false).map iv) rfl (HO.out.alloc _) _ (some ⟨w4.heap.size, 0, none⟩) 1 1 [iv v] rfl rfl (Rd.new w4 _ _ _ rfl) (iv_one (l := [v])) (by unfold maxLen; omega) (by omega) (by simp; omega) ?_; intro A1 c1' w1 ho1 hg1 hb1; have HO1 := Lib.hid ho1; have HB1 := Lib.hid hb1; clear ho1 hg1 hb1)))
        go_roundw
        case rel =>
          have hbx := (Below.refl w3.heap.size w4).alloc hB (.cells #[iv v] 3)
          refine ⟨k + 1, j + 1, A1, c1', rfl, by go_num, hlt, by omega, Lib.hid ⟨?_, ?_, hI.out.rd.below (hbx.trans HB1.out), hI.out.below.trans (hbx.trans HB1.out)⟩⟩
          · rw [HFS.out, if_pos (by rfl), List.length_append, HLL.out]
            rfl
          · rw [HFS.out, if_pos (by rfl), List.map_append]
            exact HO1.out
        case measure => simp [intOf]; omega
      · go_wp2_with (first | (go_at_call 34; refine HHA.out.mono ?_; rintro e w4 ⟨rfl, rfl⟩))
        go_roundw
        case rel =>
          refine ⟨k + 1, j, A, c, rfl, by go_num, hlt, by omega, Lib.hid ⟨?_, ?_, hI.out.rd, hI.out.below⟩⟩
          · rw [HFS.out, if_neg (by decide), List.append_nil]
            exact HLL.out
          · rw [HFS.out, if_neg (by decide), List.append_nil]
            exact HO.out
        case measure => simp [intOf]; omega
    · obtain rfl : k = m := by omega
      have HFT : Hid (L.take k = L) := Lib.hid (List.take_of_length_le (by rw [HLM.out]; exact Nat.le_refl _))
      have ho := hI.out.own
      have hl := hI.out.len
      rw [HFT.out] at ho hl
      have HPL := Lib.hid (plPlaces (HP3.out.below hI.out.below) wr.heap.size A j c (L.filter fun i => !Z.getD i false) (Rd.of_own ho) (Nat.le_refl _) hl (by omega) (fun i hi => by have := HLT.out i (List.mem_filter.1 hi).1; omega))
      have HBW := Lib.hid (HB3.out.via hI.out.below)
      clear ho hl
      go_wp2_with (go_at_call 27; refine HPL.out.mono ?_; rintro e w5 ⟨A5, n5, c5, rfl, hl5, ho5, hb5⟩)
      go_ret
      exact ⟨A5, n5, c5, rfl, hl5, own_lower ho5 HBW.out.size, HBW.out.via hb5⟩
end Cib
