/- try: the rows that hold without some. -/
import Derived.Test.YthlpcghoijgeiaaLocT
set_option linter.unusedVariables false
set_option linter.unusedSimpArgs false
set_option maxRecDepth 40000
namespace Loc
open Cib
/-- The rows but some are those of data. -/
def Fits (k W n : Nat) (L : List (List UInt8)) (s : List Nat) (D : List (List UInt8)) : Prop := D.length = k ∧ (∀ r ∈ D, r.length = W) ∧ ∀ i, i < n → i ∉ s → L.getD i [] = Cod.shard k D i
/-- What try answers. -/
structure TryP (k W n : Nat) (L : List (List UInt8)) (s : List Nat) (M : List (List UInt8)) (x : Bool) : Prop where
  yes : x = true → ∃ D, Fits k W n L s D ∧ M = Cod.shards k D n
  no : x = false → ∀ D, ¬ Fits k W n L s D
theorem off_all {k : Nat} {S : List (List UInt8)} : ∀ p, Dlt.off k S p = [] ↔ ∀ j, j < p → S.getD (k + j) [] = Cod.shard k (S.take k) (k + j)
  | 0 => by simp [Dlt.off]
  | p + 1 => by
    rw [Dlt.off]
    by_cases h : S.getD (k + p) [] = Cod.shard k (S.take k) (k + p)
    · rw [if_pos h, off_all p]
      constructor
      · intro h2 j hj
        by_cases e : j = p
        · rw [e]
          exact h
        · exact h2 j (by omega)
      · intro h2 j hj
        exact h2 j (by omega)
    · rw [if_neg h]
      constructor
      · intro h2
        simp at h2
      · intro h2
        exact absurd (h2 p (by omega)) h
theorem hav_left {k n W : Nat} {s : List Nat} {L : List RowB} (hl : L.length = n) (hW : 0 < W) (hLW : ∀ i, i < n → ((bss L).getD i []).length = W) : hav (bss (leftL s L n)) n = but n s := by
  unfold hav but
  apply List.filter_congr
  intro i hi
  rw [List.mem_range] at hi
  rw [leftL_bss hl hi]
  cases h : s.contains i
  · simp only [Bool.false_eq_true, if_false, Bool.not_false]
    rw [hLW i hi]
    exact decide_eq_true hW
  · simp
theorem tryP_of {k m n W : Nat} {s : List Nat} {L : List RowB} {M : List (List UInt8)} (h0 : 0 < k) (hn : n = k + m) (hl : L.length = n) (hW : 0 < W) (hLW : ∀ i, i < n → ((bss L).getD i []).length = W) (hk : k ≤ (hav (bss (leftL s L n)) n).length)
    (hM : M.length = n) (hG : ∀ i, i < n → Good k W ((hav (bss (leftL s L n)) n).take k) (bss (leftL s L n)) i (M.getD i [])) : TryP k W n (bss L) s M (decide (Dlt.off k M m = [])) := by
  have hMw : ∀ r ∈ M, r.length = W := by
    intro r hr
    obtain ⟨i, hi, rfl⟩ := List.getElem_of_mem hr
    have h1 := (hG i (by omega)).1
    simpa [List.getD, hi] using h1
  have hT : (M.take k).length = k := by rw [List.length_take]; omega
  have hTw : ∀ r ∈ M.take k, r.length = W := fun r hr => hMw r (List.mem_of_mem_take hr)
  have hTe : Cod.evn (M.take k) = true := by
    rw [Cod.evn_true]
    intro r hr
    rw [hTw r hr, Cod.len0_eq (by omega), hTw _ (List.getElem_mem _)]
  have hrow : ∀ i, i < n → i ∉ s → M.getD i [] = (bss L).getD i [] := by
    intro i hi his
    have h1 := (hG i hi).2.1
    rw [leftL_bss hl hi, if_neg (by simpa using his)] at h1
    exact h1 (by rw [hLW i hi]; exact hW)
  refine ⟨fun hx => ?_, fun hx D hf => ?_⟩
  · have ho := (off_all m).1 (of_decide_eq_true hx)
    have hall : ∀ i, i < n → M.getD i [] = Cod.shard k (M.take k) i := by
      intro i hi
      by_cases hik : i < k
      · rw [Cod.shard_data hT hik hTe, List.getElem_take]
        simp [List.getD, show i < M.length by omega]
      · have := ho (i - k) (by omega)
        rwa [show k + (i - k) = i from by omega] at this
    refine ⟨M.take k, ⟨hT, hTw, fun i hi his => ?_⟩, ?_⟩
    · rw [← hrow i hi his, hall i hi]
    · apply List.ext_getElem
      · rw [Cod.shards_length, hM]
      · intro i h1 h2
        have := hall i (by omega)
        rw [List.getD_eq_getElem?_getD, List.getElem?_eq_getElem h1, Option.getD_some] at this
        rw [this]
        simp [Cod.shards]
  · obtain ⟨hD, hDw, hfit⟩ := hf
    have hDe : Cod.evn D = true := by
      rw [Cod.evn_true]
      intro r hr
      rw [hDw r hr, Cod.len0_eq (by omega), hDw _ (List.getElem_mem _)]
    have hall : ∀ i, i < n → M.getD i [] = Cod.shard k D i := by
      intro i hi
      by_cases his : i ∈ s
      · refine (hG i hi).2.2 (by rw [leftL_bss hl hi, if_pos (by simpa using his)]; rfl) D hD hDw (fun j hj => ?_)
        have h1 := use_there hk hj
        have hu := (hav_use (m := m) hn hk).u_lt hj
        rw [← hn] at hu
        rw [leftL_bss hl hu] at h1 ⊢
        split at h1
        · cases h1
        · rename_i hns
          rw [if_neg hns]
          exact hfit _ hu (by simpa using hns)
      · rw [hrow i hi his]
        exact hfit i hi his
    have hMD : M.take k = D := by
      apply List.ext_getElem
      · rw [hT, hD]
      · intro i h1 h2
        have hik : i < k := by omega
        have h3 := hall i (by omega)
        rw [Cod.shard_data hD hik hDe] at h3
        rw [List.getElem_take, ← h3]
        simp [List.getD, show i < M.length by omega]
    have : Dlt.off k M m = [] := (off_all m).2 fun j hj => by rw [hMD]; exact hall (k + j) (by omega)
    rw [this] at hx
    simp at hx
end Loc
namespace Cib
open Go Go.RowKit Go.Proofs Go.Maps Go.WideMaps
theorem below_grown {w wr w' : World} {b : Nat} (h : Below w.heap.size w wr) (hg : wr.grownBy w' (some b)) (hb : w.heap.size ≤ b) : Below w.heap.size w w' := by
  refine h.trans ⟨hg.os, hg.tape, hg.output, Nat.le_trans (Nat.le_refl _) hg.size, fun k hk => hg.block k (Nat.lt_of_lt_of_le hk h.size) (fun e => ?_)⟩
  injection e with e
  omega
/-- What try answers, in memory. -/
def TryR (k W n : Nat) (L : List (List UInt8)) (s : List Nat) (w : World) (e : Ending) (w' : World) : Prop :=
  ∃ A' c' M x, e = .returned (.tuple #[.slice A' n c', .bool x]) ∧ M.length = n ∧ w'.ownsRow w.heap.size 22 1 (.slice A' n c') n (M.map RowB.v) ∧ RowsNew w' w.heap.size M ∧ Below w.heap.size w w' ∧ Loc.TryP k W n L s (bss M) x
set_option maxHeartbeats 2000000 in
theorem locTry {w : World} {g gf k m c : Nat} {A : Option Addr} (h : Cdr w g gf k m A c) (L : List RowB) (B : Nat) (Al : Option Addr) (n cl : Nat) (hrl : Rd w B Al (L.map RowB.v)) (hR : RowsAt w B L) (hB : B ≤ w.heap.size) (hl : L.length = n) (hn : n = k + m) (hcl : n ≤ cl) (hclm : cl ≤ maxLen) (W : Nat) (hW : 0 < W) (hW2 : W ≤ 1000000000) (hLW : ∀ r ∈ L, r.n = W)
    (s : List Nat) (hs : s.length ≤ m) (hs9 : ∀ u ∈ s, u ≤ 1000000000) (As : Option Addr) (ns cs : Nat) (hns : s.length = ns) (hrs : Rd w B As (s.map iv)) :
    Calls Try.prog 46 #[.pointer (some ⟨g, 0, none⟩), .slice Al n cl, .slice As ns cs] w (TryR k W n (bss L) s w) := by
  have hk1 := h.hk
  have hkm := h.hs
  have hn255 : n ≤ 255 := by omega
  have hLW2 : ∀ i, i < n → ((bss L).getD i []).length = W := by
    intro i hi
    have hi' : i < L.length := by omega
    rw [bss_get hi', (hR.get hi').len]
    exact hLW _ (List.getElem_mem hi')
  have HHV := Lib.hid (Loc.hav_left (k := k) (s := s) hl hW hLW2)
  have hkk : k ≤ (hav (bss (leftL s L n)) n).length := by
    rw [HHV.out]
    have := Loc.but_len n s
    omega
  have HTP := Lib.hid fun M hM hG => Loc.tryP_of (s := s) (M := M) hk1 hn hl hW hLW2 hkk hM hG
  have HC := Lib.hid h
  have HRL := Lib.hid hrl
  have HRR := Lib.hid hR
  have HL := Lib.hid hl
  have HNK := Lib.hid hn
  have HLW := Lib.hid hLW
  have HS9 := Lib.hid hs9
  have HNS := Lib.hid hns
  have HRS := Lib.hid hrs
  have HKK := Lib.hid hkk
  have hns2 : ns ≤ 255 := by omega
  clear h hrl hR hl hn hLW hLW2 hs9 hrs hkk HHV hs hns
  have hmm := @run_makeMap Try.prog
  go_enter Try.func46, Try.ntmps46
  go_wp2
  clear hmm
  go_loopw [10, 16] (fun _ i wr => ∃ p : Nat, i = .int .i64 p ∧ p ≤ ns ∧ Hid (SetIs wr w.heap.size p (s.take p)) ∧ Hid (Below w.heap.size w wr)) (fun _ i _ => ns - (intOf i).toNat)
  case atStart => exact ⟨0, rfl, Nat.zero_le _, Lib.hid (SetIs.made w), Lib.hid ((Below.refl _ _).alloc (Nat.le_refl _) _)⟩
  case round =>
    obtain ⟨p, rfl, hp, HST, HBr⟩ := hrel
    by_cases hlt : p < ns
    · have hpl : p < s.length := by rw [HNS.out]; exact hlt
      obtain ⟨ad, rfl, hcell⟩ := rd_int (HRS.out.below (HBr.out.mono hB)) hpl
      have hu9 := HS9.out _ (List.getElem_mem hpl)
      have HTK := Lib.hid (List.take_succ_eq_append_getElem hpl)
      generalize s[p] = u at *
      clear hpl
      go_wp2_with (refine SetIs.put HST.out (by unfold maxLen; omega) rfl (.tmp 20) (.tmp 21) (.const (.bool true)) rfl rfl u hu9 rfl rfl ?_; intro w2 hs2 hg2; have HS2 := Lib.hid hs2; have HB2 := Lib.hid (below_grown HBr.out hg2 (Nat.le_refl _)); rw [← HTK.out] at HS2; clear hs2 hg2)
      go_roundw
      case rel => exact ⟨p + 1, by go_num, hlt, HS2, HB2⟩
      case measure => simp [intOf]; omega
    · obtain rfl : p = ns := by omega
      have htk : s.take p = s := List.take_of_length_le (by rw [HNS.out]; exact Nat.le_refl _)
      rw [htk] at HST
      have HLF := Lib.hid (locLeft L B Al n cl w.heap.size p s wr (HRL.out.below (HBr.out.mono hB)) HL.out (Nat.le_trans hB HBr.out.size) (by omega) HST.out)
      clear HST htk hlt hp
      go_wp2_with fail
      refine HLF.out.mono ?_
      rintro e w2 ⟨rfl, ho2, hb2⟩
      have HW2 := Lib.hid (HBr.out.via hb2)
      have HLA : Hid (RowsAt w2 w2.heap.size (leftL s L n)) := Lib.hid fun r hr => by
        rcases leftL_mem (by rw [HL.out]; exact Nat.le_refl _) hr with rfl | h1
        · exact ⟨Rd.nil _ _ _, rfl, Nat.le_refl _, Nat.zero_le _⟩
        · exact ((HRR.out r h1).below (HW2.out.mono hB)).more (Nat.le_trans hB HW2.out.size)
      have HDA := Lib.hid (decAll (HC.out.below HW2.out) (leftL s L n) w2.heap.size (some ⟨wr.heap.size, 0, none⟩) n n (Rd.of_own ho2) HLA.out (Nat.le_refl _) (leftL_length _ _ _) HNK.out W hW hW2 (fun r hr => by
        rcases leftL_mem (by rw [HL.out]; exact Nat.le_refl _) hr with rfl | h1
        · exact .inl rfl
        · exact .inr (HLW.out r h1)) HKK.out)
      clear ho2 hb2 HLF HBr HRL HRR HLA
      go_wp2_with fail
      refine HDA.out.mono ?_
      rintro e w3 ⟨A3, c3, M, rfl, hM, ho3, hr3, hb3, hG3⟩
      have HW3 := Lib.hid (HW2.out.via hb3)
      have hcp := own_cap ho3
      have hMe : Cod.evn (bss M) = true := by
        have hMw : ∀ r ∈ bss M, r.length = W := by
          intro r hr
          obtain ⟨i, hi, rfl⟩ := List.getElem_of_mem hr
          have h1 := (hG3 i (by rw [bss_length] at hi; omega)).1
          simpa [List.getD, hi] using h1
        rw [Cod.evn_true]
        intro r hr
        have h0 : 0 < (bss M).length := by rw [bss_length, hM]; have := HNK.out; omega
        rw [hMw r hr, Cod.len0_eq h0, hMw _ (List.getElem_mem _)]
      have hMn : ∀ r ∈ M, r.n ≤ 1000000000 := by
        intro r hr
        obtain ⟨i, hi, rfl⟩ := List.getElem_of_mem hr
        have h1 := (hG3 i (by omega)).1
        rw [bss_get hi, (hr3.at _ (List.getElem_mem hi)).len] at h1
        omega
      have HHO := Lib.hid (dlHolds (w := w3) (.pointer (some ⟨g, 0, none⟩)) (.slice A3 n c3) (Dlt.off k (bss M) m) 0 (decide (Dlt.off k (bss M) m = [])) (by simp) (dlOff (HC.out.below HW3.out) M w3.heap.size A3 n c3 (Rd.of_own ho3) hr3.at (Nat.le_refl _) hM hcp.1 hcp.2 hMn HNK.out hMe))
      have HTT := Lib.hid (HTP.out (bss M) (by rw [bss_length]; exact hM) hG3)
      have HM := Lib.hid hM
      have HO3 := Lib.hid (own_lowerB ho3 HW2.out.size)
      have HR3 := Lib.hid (hr3.lower HW2.out.size)
      obtain ⟨x, hx⟩ : ∃ x, decide (Dlt.off k (bss M) m = []) = x := ⟨_, rfl⟩
      rw [hx] at HHO HTT
      clear hM ho3 hr3 hb3 hG3 hcp hMe hMn hx HTP HDA
      go_wp2_with fail
      refine HHO.out.mono ?_
      rintro e w4 ⟨rfl, hb4⟩
      have HW4 := Lib.hid (HW3.out.via hb4)
      have HO4 := Lib.hid (own_via HO3.out hb4)
      have HR4 := Lib.hid (HR3.out.below hb4)
      clear hb4 HHO
      cases x
      · go_wp2
        first | go_ret2 | go_ret
        exact ⟨A3, c3, M, false, rfl, HM.out, HO4.out, HR4.out, HW4.out, HTT.out⟩
      · go_wp2
        first | go_ret2 | go_ret
        exact ⟨A3, c3, M, true, rfl, HM.out, HO4.out, HR4.out, HW4.out, HTT.out⟩
end Cib
