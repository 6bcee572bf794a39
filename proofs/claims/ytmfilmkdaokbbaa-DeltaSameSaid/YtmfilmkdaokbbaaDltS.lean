/- Spread, Update; the document's. -/
import Derived.Test.YtmfilmkdaokbbaaDltW
import Derived.Test.YtmfilmkdaokbbaaFldH
set_option linter.unusedVariables false
set_option linter.unusedSimpArgs false
set_option maxRecDepth 40000
namespace Cib
open Go Go.RowKit Go.Proofs
/-- What a change of data row j changes in the first n shards. -/
def Dlt.spread (k j : Nat) (ch : List UInt8) (n : Nat) : List (List UInt8) := (List.range n).map fun i => scB (Cod.fac k i j) ch
theorem Dlt.spread_next (k j : Nat) (ch : List UInt8) (n : Nat) : Dlt.spread k j ch (n + 1) = Dlt.spread k j ch n ++ [scB (Cod.fac k n j) ch] := by simp [Dlt.spread, List.range_succ]
theorem Dlt.spread_length (k j : Nat) (ch : List UInt8) (n : Nat) : (Dlt.spread k j ch n).length = n := by simp [Dlt.spread]
theorem dlSpreadNo {w : World} {g gf k m c : Nat} {A : Option Addr} (h : Cdr w g gf k m A c) (j : Int) (hj : ¬ (0 ≤ j ∧ j < (k : Int))) (v : Value) : Calls Try.prog 12 #[.pointer (some ⟨g, 0, none⟩), .int .i64 j, v] w fun e w' => e = .returned (.tuple #[.slice none 0 0, .int .i64 2]) ∧ Below w.heap.size w w' := by
  have HN := Lib.hid (dlNone h)
  have HD := Lib.hid (dlIsData (h.drewN 1) j)
  rw [decide_eq_false hj] at HD
  clear h hj
  go_enter Try.func12, Try.ntmps12
  go_wp2_with fail
  refine HN.out.mono ?_
  rintro e w' ⟨rfl, rfl⟩
  go_wp2_with fail
  refine HD.out.mono ?_
  rintro e w' ⟨rfl, rfl⟩
  go_wp2
  first | go_ret2 | go_ret
  exact ⟨rfl, below_drewN (Below.refl _ _) 1⟩
set_option maxHeartbeats 1600000 in
theorem dlSpread {w : World} {g gf k m c : Nat} {A : Option Addr} (h : Cdr w g gf k m A c) (j : Nat) (hj : j < k) (B : Nat) (Ac : Option Addr) (nc cc : Nat) (ch : List UInt8) (hr : Rd w B Ac (ch.map bv)) (hn : ch.length = nc) (hB : B ≤ w.heap.size) (hl : nc ≤ 1000000000) :
    Calls Try.prog 12 #[.pointer (some ⟨g, 0, none⟩), .int .i64 (j : Int), .slice Ac nc cc] w (NewR (Dlt.spread k j ch (k + m)) 0 w) := by
  have hk := h.hk
  have hs := h.hs
  have HN := Lib.hid (dlNone h)
  have HD := Lib.hid (dlIsData (h.drewN 1) (j : Int))
  rw [decide_eq_true (by omega)] at HD
  have HNN := Lib.hid (cdN (h.drewN 1))
  have HN2 := Lib.hid (cdN ((h.drewN 2).below ((Below.refl (w.drewN 2).heap.size (w.drewN 2)).alloc (Nat.le_refl _) (.cells (madeCells #[.slice none 0 0] (k + m)) 22))))
  have hmk : ∀ V : World, (Instr.makeSlice 23 (.int .i64 0) (.int .i64 ((k : Int) + m))).run Try.prog V = .ok (.slice (some ⟨V.heap.size, 0, none⟩) 0 (k + m)) (V.alloc (.cells (madeCells #[.slice none 0 0] (k + m)) 22)) := fun V => by
    have := makeR 0 (k + m) (Nat.zero_le _) (by omega) V
    rw [Int.natCast_add] at this
    exact this
  have HC := Lib.hid h
  have HR := Lib.hid hr
  have HCL := Lib.hid hn
  have HMD := Lib.hid (MadeI.made w (k + m) (by unfold maxLen; omega))
  clear h hr hn
  go_enter Try.func12, Try.ntmps12
  go_wp2_with fail
  refine HN.out.mono ?_
  rintro e w1 ⟨rfl, rfl⟩
  go_wp2_with fail
  refine HD.out.mono ?_
  rintro e w1 ⟨rfl, rfl⟩
  go_wp2_with fail
  refine HNN.out.mono ?_
  rintro e w1 ⟨rfl, rfl⟩
  go_wp2_with fail
  refine HN2.out.mono ?_
  rintro e w1 ⟨rfl, rfl⟩
  go_wp2
  go_loopw [8, 9, 23] (fun l _ i wr => ∃ (p : Nat) (A' : Option Addr) (c' : Nat) (M : List RowB), i = .int .i64 p ∧ p ≤ k + m ∧ l = .slice A' p c' ∧ Hid (MadeI w (Dlt.spread k j ch p) A' c' M wr)) (fun _ _ i _ => k + m - (intOf i).toNat)
  case atStart =>
    have hM := HMD.out
    exact ⟨0, _, k + m, [], rfl, Nat.zero_le _, rfl, ⟨hM.bs, hM.own, ⟨fun r hr => (by cases hr), List.Pairwise.nil⟩, below_drewN hM.below 3⟩⟩
  case round =>
    clear hmk HMD HN HD HNN HN2
    obtain ⟨p, A', c', M, rfl, hp, rfl, HI⟩ := hrel
    have HML := Lib.hid HI.out.len
    rw [Dlt.spread_length] at HML
    have hz := HI.out.below.size
    by_cases hlt : p < k + m
    · have hlt' : (p : Int) < (k : Int) + (m : Int) := by omega
      have hC := HC.out.below HI.out.below
      have HFD := Lib.hid (cdField hC)
      have HRW := Lib.hid (cdRow hC p hlt)
      have HPU := Lib.hid (fun A5 n5 c5 w5 hb ho A6 c6 w6 ho6 hg6 hb6 => HI.out.push (w2 := w5) (w3 := w6) (A3 := A6) (c3 := c6) (x := scB (Cod.fac k p j) ch) (r := ⟨A5, n5, c5, scB (Cod.fac k p j) ch⟩) rfl hb ho ho6 hg6 hb6)
      rw [Dlt.spread_length, ← Dlt.spread_next] at HPU
      have HOO := Lib.hid HI.out.own
      rw [Dlt.spread_length] at HOO
      have HBW := Lib.hid HI.out.below
      have HFU := Lib.hid hC.full
      clear hC HI
      go_wp2_with fail
      refine HFD.out.mono ?_
      rintro e w1 ⟨rfl, rfl⟩
      go_wp2_with fail
      refine HRW.out.mono ?_
      rintro e w2 ⟨A2, n2, c2, rfl, hn2, ho2, hb2⟩
      rw [Cod.facRow_length] at hn2
      subst hn2
      have hjl : j < (Cod.facRow k p).length := by rw [Cod.facRow_length]; exact hj
      obtain ⟨ad, rfl, _, hcell⟩ := (Rd.of_own ho2).byte hjl
      have hfv : ((Cod.facRow k p)[j]).toNat = Cod.fac k p j := by
        rw [← Cod.facRow_get k p hj]
        simp [List.getD, hjl]
      rw [hfv] at hcell
      have hf8 := Cod.fac_lt k p j
      have HSC := Lib.hid (fldScaleF gf (Cod.fac k p j) hf8 Ac cc ch w2 (HFU.out.on hb2) B (HR.out.below ((HBW.out.via hb2).mono hB)) HCL.out (Nat.le_trans hB (HBW.out.via hb2).size) hl)
      have HB2 := Lib.hid hb2
      clear ho2 hb2 hfv hjl HRW
      go_wp2_with fail
      refine HSC.out.mono ?_
      rintro e w5 ⟨A5, n5, c5, rfl, hn5, ho5, hb5⟩
      have HB25 := Lib.hid (HB2.out.via hb5)
      have HO5 := Lib.hid (own_lower1 ho5 HB2.out.size)
      have hz5 : w.heap.size ≤ w5.heap.size := Nat.le_trans hz HB25.out.size
      clear ho5 hb5 hcell hf8 HSC
      go_wp2_with (at_builtin; refine appR _ rfl (.tmp 26) (.tmp 37) rfl w.heap.size A' p c' (M.map RowB.v) rfl ((own_via HOO.out HB25.out).alloc _) _ (some ⟨w5.heap.size, 0, none⟩) 1 1 [.slice A5 n5 c5] rfl rfl (Rd.new w5 _ _ _ rfl) (one_rows (L := [⟨A5, n5, c5, []⟩])) (by omega) (by simp; omega) ?_; intro A6 c6 w6 ho6 hg6 hb6)
      go_roundw
      case rel => exact ⟨p + 1, A6, c6, _, by go_num, hlt, rfl, HPU.out A5 n5 c5 w5 HB25.out HO5.out A6 c6 w6 ho6 hg6 hb6⟩
      case measure => simp [intOf]; omega
    · obtain rfl : p = k + m := by omega
      have hlt' : ¬ (((k + m : Nat) : Int) < (k : Int) + (m : Int)) := by omega
      have hI := HI.out
      have ho := hI.own
      rw [Dlt.spread_length] at ho
      go_wp2
      first | go_ret2 | go_ret
      exact ⟨A', _, c', M, rfl, hI.bs, HML.out, ho, hI.rows, hI.below⟩
end Cib
