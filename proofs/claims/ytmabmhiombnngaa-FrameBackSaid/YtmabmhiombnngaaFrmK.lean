/- Join: the first text's pieces put together. -/
import Derived.Test.YtmabmhiombnngaaFrmJ
import Derived.WalkMore
set_option linter.unusedVariables false
set_option linter.unusedSimpArgs false
set_option maxRecDepth 20000
namespace Cib
open Go Go.RowKit Go.Proofs
theorem and1_low {m : Nat} (h : m ≤ 3) : (bits .and .u8 (m : Int) 1 != 0) = decide (m % 2 = 1) := by
  have : m = 0 ∨ m = 1 ∨ m = 2 ∨ m = 3 := by omega
  rcases this with rfl | rfl | rfl | rfl <;> decide
theorem and2_all {m : Nat} (h : m ≤ 3) : (bits .and .u8 (m : Int) 2 != 0) = decide (2 ≤ m) := by
  have : m = 0 ∨ m = 1 ∨ m = 2 ∨ m = 3 := by omega
  rcases this with rfl | rfl | rfl | rfl <;> decide
/-- What Join answers. -/
def JoinR (J : List UInt8 × Nat × Nat) (w : World) (e : Ending) (w' : World) : Prop :=
  ∃ A n c, e = .returned (.tuple #[.slice A n c, .int .i64 (J.2.1 : Int), .int .i64 (J.2.2 : Int)]) ∧ J.1.length = n ∧ w'.ownsRow w.heap.size 5 1 (.slice A n c) n (J.1.map bv) ∧ Below w.heap.size w w'
set_option maxHeartbeats 1000000 in
theorem frmJoin (A : Option Addr) (n c : Nat) (L : List RowB) (w : World) (h : Rd w w.heap.size A (L.map RowB.v)) (hR : RowsAt w w.heap.size L) (hl : L.length = n) (hn : n ≤ 1000000) (hm : ∀ r ∈ L, r.n ≤ 1000000) :
    Calls Try.prog 12 #[.slice A n c] w (JoinR (Frm.joinF 0 0#32 [] (L.map (·.bs))) w) := by
  have HRD := Lib.hid h
  have HRR := Lib.hid hR
  have HL := Lib.hid hl
  have HM := Lib.hid hm
  clear h hR hl hm
  unfold JoinR
  obtain ⟨J, hJ⟩ : ∃ J, Frm.joinF 0 0#32 [] (L.map (·.bs)) = J := ⟨_, rfl⟩
  rw [hJ]
  have HJ0 := Lib.hid hJ
  clear hJ
  obtain ⟨J1, J2, J3⟩ := J
  simp only
  go_enter Try.func12, Try.ntmps12
  go_wp2
  go_step3
  go_wp2
  go_step3
  go_upto_region 4 with fail
  go_loopw [5, 6, 7, 8, 9, 10, 11, 12, 13, 16] (fun o s e _ _ _ _ _ _ i wr => ∃ (p : Nat) (t : BitVec 32) (ob : List UInt8) (Ao : Option Addr) (no co : Nat), i = .int .i64 p ∧ p ≤ n ∧ o = .slice Ao no co ∧ s = .int .u32 (t.toNat : Int) ∧ e = .int .i64 170 ∧ no ≤ p * 1000000 ∧ Hid (ob.length = no) ∧ Hid (wr.ownsRow w.heap.size 5 1 (.slice Ao no co) no (ob.map bv)) ∧ Hid (Below w.heap.size w wr) ∧ Hid (Frm.joinF p t ob ((L.map (·.bs)).drop p) = (J1, J2, J3))) (fun _ _ _ _ _ _ _ _ _ i _ => n - (intOf i).toNat)
  case atStart => exact ⟨0, 0#32, [], none, 0, 0, rfl, Nat.zero_le _, rfl, rfl, rfl, Nat.zero_le _, Lib.hid rfl, Lib.hid (World.ownsRow_nil _ _ _ _), Lib.hid (Below.refl _ _), HJ0⟩
  case round =>
    clear HJ0
    obtain ⟨p, t, ob, Ao, no, co, rfl, hp, rfl, rfl, rfl, hno, HOL, HO, HB, HJ⟩ := hrel
    by_cases hlt : p < n
    · have hpl : p < L.length := by rw [HL.out]; exact hlt
      obtain ⟨ad, rfl, hab, hcell⟩ := (HRD.out.below HB.out).row hpl
      have hRp := HRR.out.get hpl
      have hmp := HM.out _ (List.getElem_mem hpl)
      have HDR : Hid ((L.map (·.bs)).drop p = L[p].bs :: (L.map (·.bs)).drop (p + 1)) := Lib.hid (by rw [List.drop_eq_getElem_cons (by rw [List.length_map]; exact hpl), List.getElem_map])
      have HLEN := Lib.hid hRp.len
      have HRX := Lib.hid hRp.rd
      have hcap := hRp.cap
      have HMX := Lib.hid hRp.max
      clear hRp
      generalize L[p] = r at *
      obtain ⟨rA, rn, rc, x⟩ := r
      simp only at hcell hmp HDR HLEN HRX hcap HMX
      rw [HDR.out] at HJ
      have HOP := Lib.hid (frmOpen rA rn rc x wr ((HRX.out.below HB.out).more HB.out.size) HLEN.out hcap HMX.out)
      unfold OpnR at HOP
      clear HDR hab hpl
      go_wp2_with fail
      refine HOP.out.mono ?_
      rintro e w2 ⟨m, u, A', n', c', rfl, hm8, hok, hb2⟩
      have HB2 := Lib.hid (HB.out.via hb2)
      have HO2 := Lib.hid (own_via HO.out hb2)
      clear hb2 HOP
      obtain ⟨okx, hokx⟩ : ∃ b, Frm.ok x = b := ⟨_, rfl⟩
      have HOK := Lib.hid hokx
      rw [hokx] at hok
      rw [hokx]
      clear hokx
      cases okx
      · have hJ := HJ.out
        rw [Frm.joinF, if_pos (.inl HOK.out)] at hJ
        simp only [Prod.mk.injEq] at hJ
        obtain ⟨rfl, rfl, rfl⟩ := hJ
        go_wp2
        rw [Exit.noGoto_ret]
        refine bodyPost_ret (results_tmp3 rfl _ _ _) rfl ?_
        exact ⟨none, 0, 0, rfl, rfl, World.ownsRow_nil _ _ _ _, HB2.out⟩
      · obtain ⟨e1, e2, e3, e4, e5⟩ := hok rfl
        have hm3 : m ≤ 3 := by
          have := HOK.out
          unfold Frm.ok at this
          have := (of_decide_eq_true this).2.2
          omega
        have h7 : 7 ≤ rn := by
          have := HOK.out
          unfold Frm.ok at this
          have := (of_decide_eq_true this).1
          rw [HLEN.out] at this
          exact this
        have HRB : Hid (Rd w w.heap.size A' ((Frm.body x).map bv)) := Lib.hid (by
          rw [e3]
          unfold Frm.body
          rw [List.map_drop]
          exact HRX.out.cut (by rw [List.length_map, HLEN.out]; exact h7) (by rw [List.length_map, HLEN.out]; exact hcap))
        have HBL : Hid ((Frm.body x).length = n') := Lib.hid (by unfold Frm.body; rw [List.length_drop, HLEN.out, e4])
        have hn' : n' ≤ 1000000 := by omega
        have hb1 := and1_low hm3
        have hb3 := and2_all hm3
        have hb2 : ((p : Int) == 0) = decide (p = 0) := by
          by_cases h0 : p = 0
          · subst h0; rfl
          · rw [decide_eq_false h0]; simpa using h0
        have HOK2 : Hid (¬ (Frm.ok x = false)) := Lib.hid (by rw [HOK.out]; decide)
        have hiff : (decide (m % 2 = 1) = decide (p = 0)) ↔ (Frm.mk x % 2 = 1 ↔ p = 0) := by rw [e1, decide_eq_decide]
        subst e1 e2
        have HIF := Lib.hid hiff
        have HMK : Hid (∀ q, (2 ≤ Frm.mk x ↔ q = true) → decide (2 ≤ Frm.mk x) = q) := Lib.hid fun q hq => by
          cases q
          · exact decide_eq_false (fun e => by have := hq.1 e; cases this)
          · exact decide_eq_true (hq.2 rfl)
        have HZ := w2.heap.size
        have hsz2 := HB2.out.size
        obtain ⟨x1, hx1⟩ : ∃ b, decide (Frm.mk x % 2 = 1) = b := ⟨_, rfl⟩
        obtain ⟨x2, hx2⟩ : ∃ b, decide (p = 0) = b := ⟨_, rfl⟩
        obtain ⟨x3, hx3⟩ : ∃ b, decide (2 ≤ Frm.mk x) = b := ⟨_, rfl⟩
        have HX3 := Lib.hid hx3
        rw [hx1] at hb1 hiff HIF
        rw [hx2] at hb2 hiff HIF
        rw [hx3] at hb3
        clear hok e3 e4 e5 hx1 hx2 hx3 hiff HMK HZ hcap h7 HMX
        by_cases hxx : x1 = x2
        · have h3 : (x1 == x2) = true := by subst hxx; cases x1 <;> rfl
          have HJ2 := Lib.hid HJ.out
          rw [Frm.joinF, if_neg (fun h => h.elim HOK2.out (fun h => h (HIF.out.1 hxx)))] at HJ2
          have HSU := Lib.hid (frmSummed t (Frm.mk x) A' n' c' (Frm.body x) w2 (by omega) ((HRB.out.below HB2.out).more hsz2) HBL.out (by omega))
          clear HJ HIF hxx
          obtain ⟨sv, hsv⟩ : ∃ v, Frm.sum t (Frm.mk x) (Frm.body x) = v := ⟨_, rfl⟩
          rw [hsv] at HSU HJ2
          clear hsv
          go_wp2_with fail
          refine HSU.out.mono ?_
          rintro e w3 ⟨rfl, hb3'⟩
          have HB3 := Lib.hid (HB2.out.via hb3')
          have HO3 := Lib.hid (own_via HO2.out hb3')
          clear hb3' HSU HB2 HO2 HO HB
          by_cases hs : sv = Frm.want x
          · have hq : ((sv.toNat : Int) != ((Frm.want x).toNat : Int)) = false := by subst hs; simp
            rw [if_neg (fun h => h hs)] at HJ2
            have hsz3 := HB3.out.size
            clear hs
            have HOB := Lib.hid fun (A3 : Option Addr) (c3 : Nat) (w4 : World) (ho : w4.ownsRow w.heap.size 5 1 (.slice A3 (no + n') c3) (no + n') (ob.map bv ++ (Frm.body x).map bv)) => (by rw [← List.map_append] at ho; exact ho : w4.ownsRow w.heap.size 5 1 (.slice A3 (no + n') c3) (no + n') ((ob ++ Frm.body x).map bv))
            have HOL2 : Hid ((ob ++ Frm.body x).length = no + n') := Lib.hid (by rw [List.length_append, HOL.out, HBL.out])
            have hbnd : no + n' ≤ (p + 1) * 1000000 := by omega
            have hpm : p * 1000000 ≤ 1000000 * 1000000 := Nat.mul_le_mul (by omega) (Nat.le_refl _)
            cases x3
            · rw [if_neg (fun h => by have := HX3.out; rw [decide_eq_true h] at this; cases this)] at HJ2
              go_wp2_with (at_builtin; go_loud (refine appB _ rfl (.tmp 47) (.tmp 48) rfl w.heap.size Ao no co (ob.map bv) rfl HO3.out _ A' n' c' ((Frm.body x).map bv) rfl (by rw [List.length_map]; exact HBL.out) (HRB.out.below HB3.out) one_bytes (by omega) hsz3 ?_; intro A4 c4 w4 ho4 hg4 hb4; have HO4 := Lib.hid (HOB.out A4 c4 w4 ho4); have HB4 := Lib.hid (HB3.out.trans hb4); clear ho4 hg4 hb4))
              go_roundw
              case rel => exact ⟨p + 1, Frm.want x, ob ++ Frm.body x, A4, no + n', c4, by go_num, hlt, rfl, rfl, rfl, hbnd, HOL2, HO4, HB4, HJ2⟩
              case measure => simp [intOf]; omega
            · have h2 : 2 ≤ Frm.mk x := of_decide_eq_true HX3.out
              have hJ := HJ2.out
              rw [if_pos h2] at hJ
              simp only [Prod.mk.injEq] at hJ
              obtain ⟨rfl, rfl, rfl⟩ := hJ
              clear h2 HJ2
              go_wp2_with (at_builtin; go_loud (refine appB _ rfl (.tmp 47) (.tmp 48) rfl w.heap.size Ao no co (ob.map bv) rfl HO3.out _ A' n' c' ((Frm.body x).map bv) rfl (by rw [List.length_map]; exact HBL.out) (HRB.out.below HB3.out) one_bytes (by omega) hsz3 ?_; intro A4 c4 w4 ho4 hg4 hb4; have HO4 := Lib.hid (HOB.out A4 c4 w4 ho4); have HB4 := Lib.hid (HB3.out.trans hb4); clear ho4 hg4 hb4))
              rw [Exit.noGoto_ret]
              refine bodyPost_ret (results_tmp3 rfl _ _ _) rfl ?_
              exact ⟨A4, no + n', c4, by simp, HOL2.out, HO4.out, HB4.out⟩
          · have hq : ((sv.toNat : Int) != ((Frm.want x).toNat : Int)) = true := by
              simp only [bne_iff_ne, ne_eq]
              exact fun e => hs (BitVec.eq_of_toNat_eq (by omega))
            have hJ := HJ2.out
            rw [if_pos hs] at hJ
            simp only [Prod.mk.injEq] at hJ
            obtain ⟨rfl, rfl, rfl⟩ := hJ
            clear hs HJ2
            go_wp2
            rw [Exit.noGoto_ret]
            refine bodyPost_ret (results_tmp3 rfl _ _ _) rfl ?_
            exact ⟨none, 0, 0, rfl, rfl, World.ownsRow_nil _ _ _ _, HB3.out⟩
        · have h3 : (x1 == x2) = false := by simpa using hxx
          have hJ := HJ.out
          rw [Frm.joinF, if_pos (.inr (fun h => hxx (HIF.out.2 h)))] at hJ
          simp only [Prod.mk.injEq] at hJ
          obtain ⟨rfl, rfl, rfl⟩ := hJ
          clear hxx HJ
          go_wp2
          rw [Exit.noGoto_ret]
          refine bodyPost_ret (results_tmp3 rfl _ _ _) rfl ?_
          exact ⟨none, 0, 0, rfl, rfl, World.ownsRow_nil _ _ _ _, HB2.out⟩
    · obtain rfl : p = n := by omega
      have hJ := HJ.out
      rw [List.drop_of_length_le (by rw [List.length_map, HL.out]; exact Nat.le_refl _), Frm.joinF] at hJ
      simp only [Prod.mk.injEq] at hJ
      obtain ⟨rfl, rfl, rfl⟩ := hJ
      clear HJ
      go_wp2
      rw [Exit.noGoto_ret]
      refine bodyPost_ret (results_tmp3 rfl _ _ _) rfl ?_
      exact ⟨none, 0, 0, rfl, rfl, World.ownsRow_nil _ _ _ _, HB.out⟩
end Cib
