/- The law LocateDiffers. -/
import Derived.Test.YthlpcghoijgeiaaGreatLocD
import Derived.Test.YthlpcghoijgeiaaGreatLocG
set_option linter.unusedVariables false
set_option linter.unusedSimpArgs false
set_option maxRecDepth 40000
namespace Loc
theorem dif_self (a : List (List UInt8)) : ∀ p, p ≤ a.length → dif a a p = []
  | 0, _ => rfl
  | p + 1, h => by
    rw [dif_next, if_pos, dif_self a p (by omega)]
    unfold sameB
    rw [decide_eq_true (by omega)]
    simp
end Loc
namespace Cib
open Go Go.RowKit Go.Proofs
theorem rows_max {w : World} {B : Nat} {L : List RowB} (h : RowsAt w B L) : ∀ r ∈ L, r.n ≤ maxLen := fun r hr => Nat.le_trans (h r hr).cap (h r hr).max
set_option maxHeartbeats 2000000 in
theorem lawDiffers (A1 : Option Addr) (n1 c1 : Nat) (L : List RowB) (A2 : Option Addr) (n2 c2 : Nat) (M : List RowB) (w : World) (h1 : Rd w w.heap.size A1 (L.map RowB.v)) (hR1 : RowsAt w w.heap.size L) (hl1 : L.length = n1) (hc1 : n1 ≤ c1) (hm1 : c1 ≤ maxLen) (h2 : Rd w w.heap.size A2 (M.map RowB.v)) (hR2 : RowsAt w w.heap.size M) (hl2 : M.length = n2) (hc2 : n2 ≤ c2) (hm2 : c2 ≤ maxLen) :
    Calls Tryz.prog 4 #[.slice A1 n1 c1, .slice A2 n2 c2] w fun e w' => e = .returned (.bool true) ∧ Below w.heap.size w w' := by
  have HF1 := Lib.hid (lawFew5 (.int .i64 0) L w.heap.size A1 n1 c1 w h1 hl1 (Nat.le_trans hc1 hm1) (rows_max hR1))
  have HF2 := Lib.hid (lawFew5 (.int .i64 0) M w.heap.size A2 n2 c2 w h2 hl2 (Nat.le_trans hc2 hm2) (rows_max hR2))
  have HFR := Lib.hid lawFinds
  obtain ⟨f1, hf1⟩ : ∃ f, fewB (lns L) = f := ⟨_, rfl⟩
  obtain ⟨f2, hf2⟩ : ∃ f, fewB (lns M) = f := ⟨_, rfl⟩
  rw [hf1] at HF1
  rw [hf2] at HF2
  have HG1 := Lib.hid hf1
  have HG2 := Lib.hid hf2
  have HD1 := Lib.hid fun (hb1 : n1 ≤ 260) (hb2 : n2 ≤ 260) => locDiffer L M w.heap.size A1 A2 n1 c1 n2 c2 w h1 hR1 h2 hR2 hl1 hl2 (Nat.le_refl _) (by omega) (by omega)
  have HD2 := Lib.hid fun (hb1 : n1 ≤ 260) (hb2 : n2 ≤ 260) W (hW : Below w.heap.size w W) => refDiffer8 L M w.heap.size A1 A2 n1 c1 n2 c2 W (h1.below hW) (fun r hr => (hR1 r hr).below hW) (h2.below hW) (fun r hr => (hR2 r hr).below hW) hl1 hl2 hW.size (by omega) (by omega)
  have HD3 := Lib.hid fun (hb1 : n1 ≤ 260) W (hW : Below w.heap.size w W) => locDiffer L L w.heap.size A1 A1 n1 c1 n1 c1 W (h1.below hW) (fun r hr => (hR1 r hr).below hW) (h1.below hW) (fun r hr => (hR1 r hr).below hW) hl1 hl1 hW.size (by omega) (by omega)
  have HL1 := Lib.hid hl1
  have HL2 := Lib.hid hl2
  clear h1 hR1 hl1 h2 hR2 hl2 hf1 hf2 hc1 hm1 hc2 hm2
  go_enter Tryz.func4, Tryz.ntmps4
  cases f1
  · go_wp2_with (first | (go_at_call 14; refine HF1.out.mono ?_; rintro e w2 ⟨rfl, rfl⟩) | (go_at_call 7; refine (HFR.out _).mono ?_; rintro e w9 ⟨rfl, hb9⟩))
    go_ret
    exact ⟨rfl, hb9⟩
  · go_wp2_with fail
    refine HF1.out.mono ?_
    rintro e w2 ⟨rfl, rfl⟩
    cases f2
    · go_wp2_with (first | (go_at_call 14; refine HF2.out.mono ?_; rintro e w2 ⟨rfl, rfl⟩) | (go_at_call 7; refine (HFR.out _).mono ?_; rintro e w9 ⟨rfl, hb9⟩))
      go_ret
      exact ⟨rfl, hb9⟩
    · have hb1 : n1 ≤ 260 := by
        have := (fewB_true HG1.out).1
        unfold lns at this
        rw [List.length_map, HL1.out] at this
        exact this
      have hb2 : n2 ≤ 260 := by
        have := (fewB_true HG2.out).1
        unfold lns at this
        rw [List.length_map, HL2.out] at this
        exact this
      have HD1 := Lib.hid (HD1.out hb1 hb2)
      have HD2 := Lib.hid (HD2.out hb1 hb2)
      have HD3 := Lib.hid (HD3.out hb1)
      rw [Nat.max_self, Loc.dif_self (bss L) n1 (by rw [bss_length, HL1.out]; exact Nat.le_refl _)] at HD3
      have HDL := Lib.hid (Loc.dif_le (bss L) (bss M) (max n1 n2))
      obtain ⟨dl, hdl⟩ : ∃ dl, Loc.dif (bss L) (bss M) (max n1 n2) = dl := ⟨_, rfl⟩
      rw [hdl] at HD1 HD2 HDL
      clear hdl HF1 HG1 HG2 HL1 HL2
      go_wp2_with fail
      refine HF2.out.mono ?_
      rintro e w3 ⟨rfl, rfl⟩
      clear HF2
      go_wp2_with fail
      refine HD1.out.mono ?_
      rintro e w4 ⟨A4, n4, c4, rfl, hn4, ho4, hb4⟩
      have HB4 := Lib.hid hb4
      clear HD1
      go_wp2_with fail
      refine (HD2.out w4 HB4.out).mono ?_
      rintro e w5 ⟨A5, n5, c5, rfl, hn5, ho5, hb5⟩
      have HB5 := Lib.hid (HB4.out.via hb5)
      have hn9 : n4 ≤ 9223372036854775807 := by have := HDL.out; omega
      have HIN := Lib.hid (refInts A4 A5 n4 n5 c4 c5 w5.heap.size dl dl w5 ((Rd.of_own ho4).below hb5 |>.more hb5.size) (Rd.of_own ho5) hn4 hn5 hn9 (Nat.le_refl _))
      rw [decide_eq_true rfl] at HIN
      clear hn4 ho4 hb4 hn5 ho5 hb5 HD2 HDL hn9
      go_wp2_with fail
      refine HIN.out.mono ?_
      rintro e w6 ⟨rfl, hb6⟩
      have HB6 := Lib.hid (HB5.out.via hb6)
      clear hb6 HIN
      go_wp2_with fail
      refine (HD3.out w6 HB6.out).mono ?_
      rintro e w7 ⟨A7, n7, c7, rfl, hn7, _, hb7⟩
      obtain rfl : n7 = 0 := hn7.symm
      have HB7 := Lib.hid (HB6.out.via hb7)
      clear hn7 hb7 HD3
      go_wp2_with fail
      refine (HFR.out w7).mono ?_
      rintro e w9 ⟨rfl, hb9⟩
      have HB9 := Lib.hid (HB7.out.via hb9)
      clear hb9
      go_wp2
      go_ret
      exact ⟨rfl, HB9.out⟩
end Cib
