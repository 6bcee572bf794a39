/- The law FramePieces. -/
import Derived.Test.YtmabmhiombnngaaFrmX
import Derived.Test.YtmabmhiombnngaaFrmF
set_option linter.unusedVariables false
set_option linter.unusedSimpArgs false
set_option maxRecDepth 40000
namespace Cib
open Go Go.RowKit Go.Proofs
/-- Rows, new ones or none, and a number. -/
def AnyF (D : List (List UInt8)) (err : Int) (w : World) (e : Ending) (w' : World) : Prop :=
  ∃ A n c L, e = .returned (.tuple #[.slice A n c, .int .i64 err]) ∧ bss L = D ∧ L.length = n ∧ n ≤ c ∧ c ≤ maxLen ∧ Rd w' w'.heap.size A (L.map RowB.v) ∧ RowsAt w' w'.heap.size L ∧ Below w.heap.size w w'
theorem NewR.anyF {D : List (List UInt8)} {err : Int} {w w' : World} {e : Ending} (h : NewR D err w e w') : AnyF D err w e w' := by
  obtain ⟨A, n, c, L, h1, h2, h3, h4, h5, h6⟩ := h
  exact ⟨A, n, c, L, h1, h2, h3, (own_cap h4).1, (own_cap h4).2, Rd.of_own h4, h5.at, h6⟩
theorem AnyF.none {err : Int} {w w' : World} {e : Ending} (h : e = .returned (.tuple #[.slice none 0 0, .int .i64 err])) (hb : Below w.heap.size w w') : AnyF [] err w e w' :=
  ⟨_, 0, 0, [], h, rfl, rfl, Nat.le_refl _, Nat.zero_le _, Rd.nil _ _ _, RowsAt.nil, hb⟩
/-- Both Cuts answer the same. -/
theorem cutSame (A : Option Addr) (n c : Nat) (b : List UInt8) (room : Int) (hl : b.length = n) (hc : n ≤ c) (hcm : c ≤ maxLen) (hn : n ≤ 1000000) :
    ∃ D err, (∀ w, Rd w w.heap.size A (b.map bv) → Calls Try.prog 11 #[.slice A n c, .int .i64 room] w (AnyF D err w)) ∧ (∀ w, Rd w w.heap.size A (b.map bv) → Calls Try.prog 15 #[.slice A n c, .int .i64 room] w (AnyF D err w)) := by
  by_cases h : room < 8 ∨ 65535 < room
  · refine ⟨[], 2, fun w _ => (frmCutNo A n c room w h).mono fun e w' ⟨h1, h2⟩ => AnyF.none h1 (by rw [h2]; exact Below.refl _ _), fun w _ => (refCutNo A n c room w h).mono fun e w' ⟨h1, h2⟩ => AnyF.none h1 (by rw [h2]; exact Below.refl _ _)⟩
  · obtain ⟨R, rfl⟩ := Int.eq_ofNat_of_zero_le (show 0 ≤ room by omega)
    exact ⟨_, _, fun w hr => (frmCut A n c b R w hr hl hc hcm hn ⟨by omega, by omega⟩).mono fun _ _ h => h.anyF, fun w hr => (refCut A n c b R w hr hl hc hcm hn ⟨by omega, by omega⟩).mono fun _ _ h => h.anyF⟩
/-- What was met of the rows so far. -/
def LeftI (L : List RowB) (p : Nat) (left : Int) : Prop := left ≤ 3000 ∧ 3000 - 4000 * (p : Int) ≤ left ∧ ∀ j (h : j < L.length), j < p → left + min (L[j].n : Int) 4000 ≤ 3000
theorem LeftI.step {L : List RowB} {p : Nat} {left : Int} (h : LeftI L p left) (hp : p < L.length) : LeftI L (p + 1) (left - min (L[p].n : Int) 4000) := by
  obtain ⟨h1, h2, h3⟩ := h
  refine ⟨by omega, by omega, fun j hj hjp => ?_⟩
  by_cases e : j = p
  · subst e
    omega
  · have := h3 j hj (by omega)
    omega
set_option maxHeartbeats 4000000 in
theorem lawPieces (A : Option Addr) (n c : Nat) (b : List UInt8) (room : Int) (Ap : Option Addr) (np cp : Nat) (L : List RowB) (w : World) (hb : Rd w w.heap.size A (b.map bv)) (hl : b.length = n) (hc : n ≤ c) (hcm : c ≤ maxLen) (hp : Rd w w.heap.size Ap (L.map RowB.v)) (hpR : RowsAt w w.heap.size L) (hpl : L.length = np) (hpc : np ≤ cp) (hpm : cp ≤ maxLen) :
    Calls Try.prog 4 #[.slice A n c, .int .i64 room, .slice Ap np cp] w fun e w' => e = .returned (.bool true) ∧ Below w.heap.size w w' := by
  unfold maxLen at hcm hpm
  have HB := Lib.hid hb
  have HL := Lib.hid hl
  have HP := Lib.hid hp
  have HPR := Lib.hid hpR
  have HPL := Lib.hid hpl
  have HFR := Lib.hid lawFrames
  clear hb hl hp hpR hpl
  go_enter Try.func4, Try.ntmps4
  go_wp2
  go_loopw [7, 8] (fun l i wr => ∃ (p : Nat) (left : Int), i = .int .i64 p ∧ l = .int .i64 left ∧ p ≤ np ∧ p ≤ 100 ∧ wr = w ∧ Hid (LeftI L p left)) (fun _ i _ => np - (intOf i).toNat)
  case atStart => exact ⟨0, 3000, rfl, rfl, Nat.zero_le _, by omega, rfl, Lib.hid ⟨by omega, by omega, fun j _ h => absurd h (by omega)⟩⟩
  case round =>
    obtain ⟨p, left, rfl, rfl, hpn, hp100, rfl, HI⟩ := hrel
    by_cases hlt : p < np ∧ p < 100
    · obtain ⟨hlt, h100⟩ := hlt
      have hpL : p < L.length := by rw [HPL.out]; exact hlt
      obtain ⟨ad, rfl, hab, hcell⟩ := HP.out.row hpL
      have HI2 := Lib.hid (HI.out.step hpL)
      have hq := (HPR.out.get hpL)
      have hqc := hq.cap
      have hqm := hq.max
      unfold maxLen at hqm
      generalize L[p] = r at *
      obtain ⟨rA, rn, rc, rbs⟩ := r
      simp only at hcell hqc hqm HI2
      obtain ⟨h1, h2, _⟩ := HI.out
      have hw1 : IntKind.i64.wrap (left - min (rn : Int) 4000) = left - min (rn : Int) 4000 := by rw [IntKind.wrap_i64] <;> omega
      clear hpL hq HI
      go_wp2
      go_roundw
      case rel => exact ⟨p + 1, left - min (rn : Int) 4000, by go_num, by first | rfl | trivial | (refine int_eq ?_; split <;> omega), hlt, by omega, by first | rfl | trivial, HI2⟩
      case measure => simp [intOf]; omega
    · obtain ⟨h1, h2, h3⟩ := HI.out
      by_cases hgo : 1500 < n ∨ 60 < np ∨ left < 0
      · clear h3 HI
        have hx : ¬ (p < np ∧ p < 100) := hlt
        clear hlt
        go_wp2_with (go_at_call 8; refine (HFR.out _).mono ?_; rintro e w' ⟨rfl, hb9⟩)
        all_goals (go_ret; exact ⟨rfl, hb9⟩)
      · have hn15 : n ≤ 1500 := by omega
        have hn60 : np ≤ 60 := by omega
        have hle0 : 0 ≤ left := by omega
        obtain rfl : p = np := by omega
        have hmx : ∀ r ∈ L, r.n ≤ 1000000 := by
          intro r hr
          obtain ⟨j, hj, rfl⟩ := List.getElem_of_mem hr
          have := h3 j hj (by have := HPL.out; omega)
          omega
        have d1 : decide ((1500 : Int) < (n : Int)) = false := decide_eq_false (by omega)
        have d2 : decide ((60 : Int) < (p : Int)) = false := decide_eq_false (by omega)
        have d3 : decide (left < 0) = false := decide_eq_false (by omega)
        obtain ⟨D1, e1, hC1, hC2⟩ := cutSame A n c b room HL.out hc (by unfold maxLen; omega) (by omega)
        have HC1 := Lib.hid (hC1 wr HB.out)
        have HC2 := Lib.hid fun W (h : Below wr.heap.size wr W) => hC2 W ((HB.out.below h).more h.size)
        have HJ1 := Lib.hid fun W (h : Below wr.heap.size wr W) => frmJoin Ap p cp L W ((HP.out.below h).more h.size) ((HPR.out.below h).more h.size) HPL.out (by omega) hmx
        have HJ2 := Lib.hid fun W (h : Below wr.heap.size wr W) => refJoin Ap p cp L W ((HP.out.below h).more h.size) ((HPR.out.below h).more h.size) HPL.out (by omega) hmx
        have HA1 := Lib.hid fun W (h : Below wr.heap.size wr W) => frmAll Ap p cp L W ((HP.out.below h).more h.size) ((HPR.out.below h).more h.size) HPL.out hpc (by unfold maxLen; omega) (by omega) hmx
        have HA2 := Lib.hid fun W (h : Below wr.heap.size wr W) => refAll Ap p cp L W ((HP.out.below h).more h.size) ((HPR.out.below h).more h.size) HPL.out hpc (by unfold maxLen; omega) (by omega) hmx
        generalize Frm.joinF 0 0#32 [] (L.map (·.bs)) = J at *
        generalize Frm.all (L.map (·.bs)) = F at *
        clear hgo hlt hn15 hn60 hle0 h1 h2 h3 HI hC1 hC2 hmx HB HP HPR HL HPL hp100 hpn
        go_wp2_with fail
        refine HC1.out.mono ?_
        rintro e w1 ⟨A1, n1, c1, L1, rfl, hl1, hn1, hc1, hm1, hr1, hR1, hb1⟩
        have HB1 := Lib.hid hb1
        have HR1 := Lib.hid hr1
        have HRR1 := Lib.hid hR1
        clear hb1 hr1 hR1 HC1
        go_wp2_with fail
        refine (HC2.out w1 HB1.out).mono ?_
        rintro e w2 ⟨A2, n2, c2, L2, rfl, hl2, hn2, hc2, hm2, hr2, hR2, hb2⟩
        have HB2 := Lib.hid (HB1.out.via hb2)
        have HS := Lib.hid (refSame5 L1 L2 w2.heap.size A1 A2 n1 c1 n2 c2 w2 ((HR1.out.below hb2).more hb2.size) ((HRR1.out.below hb2).more hb2.size) hr2 hR2 hn1 hn2 (Nat.le_refl _) (by omega) (by omega))
        have HE := Lib.hid (hl1.trans hl2.symm)
        clear hb2 hr2 hR2 hl1 hl2 hn1 hn2 hc1 hc2 hm1 hm2 HB1 HR1 HRR1 HC2
        go_wp2_with fail
        refine HS.out.mono ?_
        rintro e w3 ⟨⟨x, rfl, hx3⟩, hb3⟩
        obtain rfl : x = true := hx3.2 HE.out
        have HB3 := Lib.hid (HB2.out.via hb3)
        clear hx3 hb3 HS HE HB2
        go_wp2_with fail
        refine (HJ1.out w3 HB3.out).mono ?_
        rintro e w4 ⟨A4, n4, c4, rfl, hn4, ho4, hb4⟩
        have HB4 := Lib.hid (HB3.out.via hb4)
        have HO4 := Lib.hid ho4
        have HN4 := Lib.hid hn4
        clear hn4 ho4 hb4 HB3 HJ1
        go_wp2_with fail
        refine (HJ2.out w4 HB4.out).mono ?_
        rintro e w5 ⟨A5, n5, c5, rfl, hn5, ho5, hb5⟩
        have HB5 := Lib.hid (HB4.out.via hb5)
        have HO5 := Lib.hid ho5
        have HN5 := Lib.hid hn5
        have HO45 := Lib.hid (own_via HO4.out hb5)
        clear hn5 ho5 hb5 HB4 HJ2 HO4
        go_wp2_with fail
        refine (HA1.out w5 HB5.out).mono ?_
        rintro e w6 h6
        obtain ⟨A6, n6, c6, L6, rfl, hl6, hn6, hc6, hm6, hr6, hR6, hb6⟩ := h6.anyF
        have HB6 := Lib.hid (HB5.out.via hb6)
        have HO46 := Lib.hid (own_via HO45.out hb6)
        have HO56 := Lib.hid (own_via HO5.out hb6)
        have HR6 := Lib.hid hr6
        have HRR6 := Lib.hid hR6
        clear hb6 hr6 hR6 h6 HB5 HO45 HO5 HA1
        go_wp2_with fail
        refine (HA2.out w6 HB6.out).mono ?_
        rintro e w7 h7
        obtain ⟨A7, n7, c7, L7, rfl, hl7, hn7, hc7, hm7, hr7, hR7, hb7⟩ := h7.anyF
        have HB7 := Lib.hid (HB6.out.via hb7)
        have ho47 := own_via HO46.out hb7
        have ho57 := own_via HO56.out hb7
        have HS := Lib.hid (refSame5 L6 L7 w7.heap.size A6 A7 n6 c6 n7 c7 w7 ((HR6.out.below hb7).more hb7.size) ((HRR6.out.below hb7).more hb7.size) hr7 hR7 hn6 hn7 (Nat.le_refl _) (by omega) (by omega))
        have HE := Lib.hid (hl6.trans hl7.symm)
        have s1 : (convert 26 9 (.slice A4 n4 c4)).run Try.prog w7 = .ok (.string ⟨J.1.toArray⟩) w7 := str_run (Rd.of_own ho47) (Below.refl _ _) (Nat.le_refl _) HN4.out c4
        have s2 : (convert 26 9 (.slice A5 n5 c5)).run Try.prog w7 = .ok (.string ⟨J.1.toArray⟩) w7 := str_run (Rd.of_own ho57) (Below.refl _ _) (Nat.le_refl _) HN5.out c5
        clear hb7 hr7 hR7 h7 hl6 hl7 hn6 hn7 hc6 hc7 hm6 hm7 HB6 HR6 HRR6 HA2 ho47 ho57 HO46 HO56 HN4 HN5
        go_wp2_with fail
        refine HS.out.mono ?_
        rintro e w8 ⟨⟨x, rfl, hx8⟩, hb8⟩
        obtain rfl : x = true := hx8.2 HE.out
        have HB8 := Lib.hid (HB7.out.via hb8)
        clear hx8 hb8 HS HE HB7 s1 s2
        go_wp2_with fail
        refine (HFR.out w8).mono ?_
        rintro e w9 ⟨rfl, hb9⟩
        have HB9 := Lib.hid (HB8.out.via hb9)
        clear hb9
        go_wp2
        go_ret
        exact ⟨rfl, HB9.out⟩
end Cib
