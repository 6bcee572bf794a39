/- The document's Join. -/
import Derived.Test.YtmabmhiombnngaaFrmD
import Derived.Test.YtmabmhiombnngaaFrmK
import Derived.Test.YtmabmhiombnngaaNumS
set_option linter.unusedVariables false
set_option linter.unusedSimpArgs false
set_option maxRecDepth 20000
namespace Frm
theorem leB_step (n k : Nat) : Num.leB n (k + 1) = UInt8.ofNat n :: Num.leB (n / 256) k := by
  apply List.ext_getElem
  · simp [Num.leB_length]
  · intro i h1 h2
    rcases i with _ | i
    · simp [Num.leB]
    · simp only [Num.leB, List.getElem_map, List.getElem_range, List.getElem_cons_succ]
      rw [Nat.div_div_eq_div_mul, Nat.pow_succ, Nat.mul_comm]
theorem leB_leN : ∀ l : List UInt8, Num.leB (Num.leN l) l.length = l
  | [] => rfl
  | c :: l => by
    have hc := c.toNat_lt
    rw [List.length_cons, leB_step, Num.leN]
    congr 1
    · apply UInt8.toNat_inj.1
      rw [UInt8.toNat_ofNat']
      omega
    · rw [show (c.toNat + 256 * Num.leN l) / 256 = Num.leN l from by omega]
      exact leB_leN l
/-- A piece that is one, told by what stands in it. -/
theorem pc_of {x : List UInt8} (h : ok x = true) : pc (mk x) (body x) (want x) = x := by
  unfold ok at h
  obtain ⟨h7, hl, hm⟩ := of_decide_eq_true h
  have e1 : UInt8.ofNat (mk x) = x[0]'(by omega) := by
    apply UInt8.toNat_inj.1
    rw [UInt8.toNat_ofNat', Nat.mod_eq_of_lt (by omega)]
    unfold mk
    rw [List.getD_eq_getElem?_getD, List.getElem?_eq_getElem (by omega), Option.getD_some]
  have e2 : Num.leB (body x).length 2 = (x.drop 1).take 2 := by
    have hb : (body x).length = len x := by unfold body; rw [List.length_drop, hl]
    have := leB_leN ((x.drop 1).take 2)
    rw [List.length_take, List.length_drop, Nat.min_eq_left (by omega)] at this
    rw [hb]
    exact this
  have e3 : Num.leB (want x).toNat 4 = (x.drop 3).take 4 := by
    have hlt := Num.leN_lt ((x.drop 3).take 4)
    have := leB_leN ((x.drop 3).take 4)
    rw [List.length_take, List.length_drop, Nat.min_eq_left (by omega)] at this hlt
    unfold want
    rw [BitVec.toNat_ofNat, Nat.mod_eq_of_lt (by omega)]
    exact this
  unfold pc head
  rw [e1, e2, e3]
  unfold body
  have d3 : (x.drop 3).take 4 ++ x.drop 7 = x.drop 3 := by
    rw [show x.drop 7 = (x.drop 3).drop 4 from by rw [List.drop_drop]]
    exact List.take_append_drop 4 _
  have d1 : (x.drop 1).take 2 ++ x.drop 3 = x.drop 1 := by
    rw [show x.drop 3 = (x.drop 1).drop 2 from by rw [List.drop_drop]]
    exact List.take_append_drop 2 _
  rw [List.cons_append, d3, d1]
  have := List.drop_eq_getElem_cons (l := x) (i := 0) (by omega)
  rw [List.drop_zero] at this
  exact this.symm
theorem pc_eq {x : List UInt8} (h : ok x = true) (s : BitVec 32) : pc (mk x) (body x) s = x ↔ s = want x := by
  constructor
  · intro e
    have := congrArg want e
    rwa [want_pc] at this
  · rintro rfl
    exact pc_of h
end Frm
namespace Cib
open Go Go.RowKit Go.Proofs
set_option maxHeartbeats 2000000 in
theorem refJoin (A : Option Addr) (n c : Nat) (L : List RowB) (w : World) (h : Rd w w.heap.size A (L.map RowB.v)) (hR : RowsAt w w.heap.size L) (hl : L.length = n) (hn : n ≤ 1000000) (hm : ∀ r ∈ L, r.n ≤ 1000000) :
    Calls Try.prog 17 #[.slice A n c] w (JoinR (Frm.joinF 0 0#32 [] (L.map (·.bs))) w) := by
  have HRD := Lib.hid h
  have HRR := Lib.hid hR
  have HL := Lib.hid hl
  have HM := Lib.hid hm
  clear h hR hl hm
  unfold JoinR
  obtain ⟨J, hJ⟩ : ∃ J, Frm.joinF 0 0#32 [] (L.map (·.bs)) = J := ⟨_, rfl⟩
  rw [hJ]
  have HJ0 := Lib.hid hJ
  clear hJ
  obtain ⟨J1, J2, J3⟩ := J
  simp only
  go_enter Try.func17, Try.ntmps17
  go_wp2
  go_loopw [5, 6, 7, 8, 9, 10, 11, 12] (fun o s i _ _ _ _ _ wr => ∃ (p : Nat) (t : BitVec 32) (ob : List UInt8) (Ao : Option Addr) (no co : Nat), i = .int .i64 p ∧ p ≤ n ∧ o = .slice Ao no co ∧ s = .int .u32 (t.toNat : Int) ∧ no ≤ p * 1000000 ∧ Hid (ob.length = no) ∧ Hid (wr.ownsRow w.heap.size 5 1 (.slice Ao no co) no (ob.map bv)) ∧ Hid (Below w.heap.size w wr) ∧ Hid (Frm.joinF p t ob ((L.map (·.bs)).drop p) = (J1, J2, J3))) (fun _ _ i _ _ _ _ _ _ => n - (intOf i).toNat)
  case atStart => exact ⟨0, 0#32, [], none, 0, 0, rfl, Nat.zero_le _, rfl, rfl, Nat.zero_le _, Lib.hid rfl, Lib.hid (World.ownsRow_nil _ _ _ _), Lib.hid (Below.refl _ _), HJ0⟩
  case round =>
    clear HJ0
    obtain ⟨p, t, ob, Ao, no, co, rfl, hp, rfl, rfl, hno, HOL, HO, HB, HJ⟩ := hrel
    by_cases hlt : p < n
    · have hpl : p < L.length := by rw [HL.out]; exact hlt
      obtain ⟨ad, rfl, hab, hcell⟩ := (HRD.out.below HB.out).row hpl
      have hRp := HRR.out.get hpl
      have hmp := HM.out _ (List.getElem_mem hpl)
      have HDR : Hid ((L.map (·.bs)).drop p = L[p].bs :: (L.map (·.bs)).drop (p + 1)) := Lib.hid (by rw [List.drop_eq_getElem_cons (by rw [List.length_map]; exact hpl), List.getElem_map])
      have HLEN := Lib.hid hRp.len
      have HRX := Lib.hid hRp.rd
      have hcap := hRp.cap
      have HMX := Lib.hid hRp.max
      clear hRp
      generalize L[p] = r at *
      obtain ⟨rA, rn, rc, x⟩ := r
      simp only at hcell hmp HDR HLEN HRX hcap HMX
      rw [HDR.out] at HJ
      clear HDR hab hpl
      by_cases h7 : rn < 7
      · have hok : Frm.ok x = false := by unfold Frm.ok; rw [decide_eq_false]; rw [HLEN.out]; omega
        have hJ := HJ.out
        rw [Frm.joinF, if_pos (.inl hok)] at hJ
        simp only [Prod.mk.injEq] at hJ
        obtain ⟨rfl, rfl, rfl⟩ := hJ
        clear hok HJ
        go_wp2
        first | go_ret3
        exact ⟨none, 0, 0, rfl, rfl, World.ownsRow_nil _ _ _ _, HB.out⟩
      · have hg1 := get_len (x := x) (by rw [HLEN.out]; omega)
        have HG1 := Lib.hid (Go.Proofs.Ytmabmhiombnngaa.refGet rA rc x 1 2 wr w.heap.size (HRX.out.below HB.out) HLEN.out (by have := HMX.out; omega) ⟨by decide, by decide⟩ ⟨by decide, by decide⟩)
        unfold Go.Proofs.Ytmabmhiombnngaa.getV at HG1
        rw [hg1] at HG1
        clear hg1
        obtain ⟨ra, rfl, hra, hx0⟩ := HRX.out.byte (k := 0) (by rw [HLEN.out]; omega)
        have hmk : (x[0]'(by rw [HLEN.out]; omega)).toNat = Frm.mk x := by
          unfold Frm.mk
          rw [List.getD_eq_getElem?_getD, List.getElem?_eq_getElem (by rw [HLEN.out]; omega), Option.getD_some]
        rw [hmk, addr_add_zero] at hx0
        have hm8 : Frm.mk x < 256 := by rw [← hmk]; exact (x[0]'(by rw [HLEN.out]; omega)).toNat_lt
        have hxw : wr.cell? ra = some (.int .u8 (Frm.mk x : Int)) := (HB.out.cell hra).trans hx0
        have hra2 := block_lt_of_cell hxw
        have hlb : Frm.len x < 65536 := by
          have hl := Num.leN_lt ((x.drop 1).take 2)
          rw [List.length_take, List.length_drop, Nat.min_eq_left (by rw [HLEN.out]; omega)] at hl
          exact hl
        have HOKD : Hid (Frm.ok x = (decide (Frm.len x = rn - 7) && decide (Frm.mk x ≤ 3))) := Lib.hid (by
          unfold Frm.ok
          rw [HLEN.out]
          by_cases a : Frm.len x = rn - 7
          · by_cases b : Frm.mk x ≤ 3 <;> simp [a, b] <;> omega
          · simp [a])
        obtain ⟨l, hl⟩ : ∃ l, Frm.len x = l := ⟨_, rfl⟩
        obtain ⟨m, hm⟩ : ∃ m, Frm.mk x = m := ⟨_, rfl⟩
        have HMM := Lib.hid hm
        rw [hl] at HG1 hlb HOKD
        rw [hm] at hxw hm8 HOKD hx0
        have hn0 : 0 < rn := by omega
        have hw1 : IntKind.i64.wrap ((rn : Int) - 7) = (rn : Int) - 7 := by rw [IntKind.wrap_i64]; omega
        have hw2 : IntKind.i64.wrap (l : Int) = (l : Int) := by rw [IntKind.wrap_i64]; omega
        have hb2 : ((p : Int) == 0) = decide (p = 0) := by
          by_cases h0 : p = 0
          · subst h0; rfl
          · rw [decide_eq_false h0]; simpa using h0
        clear hl hm hmk
        by_cases he : l = rn - 7
        · have e1 : ((l : Int) != (rn : Int) - 7) = false := by simp; omega
          have e1' : ((l : Int) == (rn : Int) - 7) = true := by simp; omega
          by_cases hm3 : m ≤ 3
          · have HOK : Hid (Frm.ok x = true) := Lib.hid (by rw [HOKD.out, decide_eq_true he, decide_eq_true hm3]; rfl)
            have e2 : decide (3 < (m : Int)) = false := decide_eq_false (by omega)
            have hb1 : ((m : Int) % 2 == 1) = decide (m % 2 = 1) := by
              by_cases h0 : m % 2 = 1
              · rw [decide_eq_true h0]; simp; omega
              · rw [decide_eq_false h0]; simp; omega
            have hiff : (decide (m % 2 = 1) = decide (p = 0)) ↔ (Frm.mk x % 2 = 1 ↔ p = 0) := by rw [HMM.out, decide_eq_decide]
            have HIF := Lib.hid hiff
            have HOK2 : Hid (¬ (Frm.ok x = false)) := Lib.hid (by rw [HOK.out]; decide)
            obtain ⟨x1, hx1⟩ : ∃ b, decide (m % 2 = 1) = b := ⟨_, rfl⟩
            obtain ⟨x2, hx2⟩ : ∃ b, decide (p = 0) = b := ⟨_, rfl⟩
            rw [hx1] at hb1 HIF
            rw [hx2] at hb2 HIF
            clear hx1 hx2 hiff he HOKD
            by_cases hxx : x1 = x2
            · have h3 : (x1 == x2) = true := by subst hxx; cases x1 <;> rfl
              have HJ2 := Lib.hid HJ.out
              rw [Frm.joinF, if_neg (fun h => h.elim HOK2.out (fun h => h (HIF.out.1 hxx)))] at HJ2
              clear HJ HIF hxx
              have HRB : Hid (Rd w w.heap.size (cut (some ra) rc 7) ((Frm.body x).map bv)) := Lib.hid (by
                unfold Frm.body
                rw [List.map_drop]
                exact HRX.out.cut (by rw [List.length_map, HLEN.out]; omega) (by rw [List.length_map, HLEN.out]; exact hcap))
              have HBL : Hid ((Frm.body x).length = rn - 7) := Lib.hid (by unfold Frm.body; rw [List.length_drop, HLEN.out])
              have hsl : ∀ V : World, (Instr.slice 26 (.slice (some ra) rn rc) (some (.int .i64 7)) none none).run Try.prog V = .ok (.slice (cut (some ra) rc 7) (rn - 7) (rc - 7)) V := fun V => run_cut_from (P := Try.prog) 26 5 Try.underlying26 sizeByte (some ra) rn rc 7 .i64 (by omega) V
              generalize cut (some ra) rc 7 = A7 at *
              have HPC := Lib.hid (refPiece t m A7 (rn - 7) (rc - 7) (Frm.body x) wr.drew (by omega) (((HRB.out.below HB.out).more HB.out.size).drewN 1) HBL.out (by omega))
              have HPE : Hid (Frm.pc m (Frm.body x) (Frm.sum t m (Frm.body x)) = x ↔ Frm.sum t m (Frm.body x) = Frm.want x) := Lib.hid (by
                have := Frm.pc_eq HOK.out (Frm.sum t m (Frm.body x))
                rw [HMM.out] at this
                exact this)
              rw [HMM.out] at HJ2
              generalize Frm.sum t m (Frm.body x) = sv at *
              generalize Frm.pc m (Frm.body x) sv = px at *
              go_wp2_with fail
              refine HG1.out.mono ?_
              rintro e w' ⟨rfl, rfl⟩
              go_wp2
              refine wp_region_held_drew (S := (fun wQq => Below (World.heap (wr.drew)).size (wr.drew) wQq)) (by kernel_rfl) (by exact Below.refl _ _) (fun _ => ?_)
              refine wpAnyH_take (i := 0) (v := ?_) rfl (by kernel_rfl) (by kernel_rfl) (by kernel_rfl) (fun _ _ _ h => h) (Or.inl ⟨by rfl, ?_⟩) (Below.refl _ _) ?_
              rotate_left
              · intro wS hSw
                go_simp
                try with_reducible rfl
              try simp only [List.getElem_toArray, List.getElem_cons_zero, List.getElem_cons_succ, Act.put, List.setIfInBounds_toArray, List.set_cons_zero, List.set_cons_succ]
              refine wpAnyH_take (i := 1) (v := ?_) rfl (by kernel_rfl) (by kernel_rfl) (by kernel_rfl) (fun _ _ _ h => h) (Or.inl ⟨by rfl, ?_⟩) (Below.refl _ _) ?_
              rotate_left
              · intro wS hSw
                go_simp
                try with_reducible rfl
              try simp only [List.getElem_toArray, List.getElem_cons_zero, List.getElem_cons_succ, Act.put, List.setIfInBounds_toArray, List.set_cons_zero, List.set_cons_succ]
              refine wpAnyH_take (i := 3) (v := ?_) rfl (by kernel_rfl) (by kernel_rfl) (by kernel_rfl) (fun _ _ _ h => h) (Or.inl ⟨by rfl, ?_⟩) (Below.refl _ _) ?_
              rotate_left
              · intro wS hSw
                go_simp
                try with_reducible rfl
              try simp only [List.getElem_toArray, List.getElem_cons_zero, List.getElem_cons_succ, Act.put, List.setIfInBounds_toArray, List.set_cons_zero, List.set_cons_succ]
              refine wpAnyH_take (i := 4) (v := ?_) rfl (by kernel_rfl) (by kernel_rfl) (by kernel_rfl) (fun _ _ _ h => h) (Or.inl ⟨by rfl, ?_⟩) (Below.refl _ _) ?_
              rotate_left
              · intro wS hSw
                go_simp
                try with_reducible rfl
              try simp only [List.getElem_toArray, List.getElem_cons_zero, List.getElem_cons_succ, Act.put, List.setIfInBounds_toArray, List.set_cons_zero, List.set_cons_succ]
              refine wpAnyH_take (i := 5) (v := ?_) rfl (by kernel_rfl) (by kernel_rfl) (by kernel_rfl) (fun _ _ _ h => h) (Or.inl ⟨by rfl, ?_⟩) (Below.refl _ _) ?_
              rotate_left
              · intro wS hSw
                go_simp
                try with_reducible rfl
              try simp only [List.getElem_toArray, List.getElem_cons_zero, List.getElem_cons_succ, Act.put, List.setIfInBounds_toArray, List.set_cons_zero, List.set_cons_succ]
              refine wpAnyH_take (i := 2) (v := ?_) rfl (by kernel_rfl) (by kernel_rfl) (by kernel_rfl) (fun _ _ _ h => h) (Or.inl ⟨by rfl, ?_⟩) (Below.refl _ _) ?_
              rotate_left
              · intro wS hSw
                have hcv := ((hSw.cell (p := ra) (by exact hra2)).trans hxw)
                go_simp
                try with_reducible rfl
              try simp only [List.getElem_toArray, List.getElem_cons_zero, List.getElem_cons_succ, Act.put, List.setIfInBounds_toArray, List.set_cons_zero, List.set_cons_succ]
              refine wpAnyH_ready (rs := [6]) (by kernel_rfl) (by simp) ?_
              refine AllReadyH.cons rfl (fun K hK => ?_) AllReadyH.nil
              go_simp
              refine HPC.out.mono ?_
              rintro e w3 ⟨A3, n3, c3, rfl, hl3, ho3, hb3⟩
              refine hK.out _ _ hb3 (fun _ => ?_)
              clear hK K
              try simp only [List.getElem_toArray, List.getElem_cons_zero, List.getElem_cons_succ, Act.put, List.setIfInBounds_toArray, List.set_cons_zero, List.set_cons_succ]
              refine wpAnyH_strong (S2 := fun w' => Below (World.heap w3).size w3 w') (fun _ h => Below.via hb3 h) ?_
              refine wpAnyH_take (i := 7) (v := ?_) rfl (by kernel_rfl) (by kernel_rfl) (by kernel_rfl) (fun _ _ _ h => h) (Or.inl ⟨by rfl, ?_⟩) (Below.refl _ _) ?_
              rotate_left
              · intro wS hSw
                go_simp
                try with_reducible rfl
              try simp only [List.getElem_toArray, List.getElem_cons_zero, List.getElem_cons_succ, Act.put, List.setIfInBounds_toArray, List.set_cons_zero, List.set_cons_succ]
              refine wpAnyH_take (i := 8) (v := ?_) rfl (by kernel_rfl) (by kernel_rfl) (by kernel_rfl) (fun _ _ _ h => h) (Or.inl ⟨by rfl, ?_⟩) (Below.refl _ _) ?_
              rotate_left
              · intro wS hSw
                go_simp
                try with_reducible rfl
              try simp only [List.getElem_toArray, List.getElem_cons_zero, List.getElem_cons_succ, Act.put, List.setIfInBounds_toArray, List.set_cons_zero, List.set_cons_succ]
              refine wpAnyH_take (i := 9) (v := ?_) rfl (by kernel_rfl) (by kernel_rfl) (by kernel_rfl) (fun _ _ _ h => h) (Or.inl ⟨by rfl, ?_⟩) (Below.refl _ _) ?_
              rotate_left
              · intro wS hSw
                go_simp
                try with_reducible rfl
              try simp only [List.getElem_toArray, List.getElem_cons_zero, List.getElem_cons_succ, Act.put, List.setIfInBounds_toArray, List.set_cons_zero, List.set_cons_succ]
              refine wpAnyH_take (i := 10) (v := ?_) rfl (by kernel_rfl) (by kernel_rfl) (by kernel_rfl) (fun _ _ _ h => h) (Or.inl ⟨by rfl, ?_⟩) (Below.refl _ _) ?_
              rotate_left
              · intro wS hSw
                go_simp
                try with_reducible rfl
              try simp only [List.getElem_toArray, List.getElem_cons_zero, List.getElem_cons_succ, Act.put, List.setIfInBounds_toArray, List.set_cons_zero, List.set_cons_succ]
              refine wpAnyH_take (i := 11) (v := ?_) rfl (by kernel_rfl) (by kernel_rfl) (by kernel_rfl) (fun _ _ _ h => h) (Or.inl ⟨by rfl, ?_⟩) (Below.refl _ _) ?_
              rotate_left
              · intro wS hSw
                go_simp
                try with_reducible rfl
              try simp only [List.getElem_toArray, List.getElem_cons_zero, List.getElem_cons_succ, Act.put, List.setIfInBounds_toArray, List.set_cons_zero, List.set_cons_succ]
              refine wpAnyH_done (by kernel_rfl) ?_ _
              have HB3 := Lib.hid ((below_drewN HB.out 1).trans (hb3.mono HB.out.size))
              have HO3 : Hid (w3.ownsRow w.heap.size 5 1 (.slice Ao no co) no (ob.map bv)) := Lib.hid (own_via (own_via HO.out (below_drewN (Below.refl _ _) 1)) hb3)
              have hs1 := str_run (Rd.of_own ho3) (Below.refl _ _) (Nat.le_refl _) hl3 c3
              have hs2 := str_run (HRX.out.below HB3.out) (Below.refl w3.heap.size w3) HB3.out.size HLEN.out rc
              have hx3 := (HB3.out.cell (p := ra) hra).trans hx0
              have hsz3 := HB3.out.size
              clear hl3 ho3 hb3 HPC HG1 hxw
              by_cases hs : sv = Frm.want x
              · have hpx : (px == x) = true := by simpa using HPE.out.2 hs
                rw [if_neg (fun h => h hs)] at HJ2
                have HOB := Lib.hid fun (A3 : Option Addr) (c3 : Nat) (w4 : World) (ho : w4.ownsRow w.heap.size 5 1 (.slice A3 (no + (rn - 7)) c3) (no + (rn - 7)) (ob.map bv ++ (Frm.body x).map bv)) => (by rw [← List.map_append] at ho; exact ho : w4.ownsRow w.heap.size 5 1 (.slice A3 (no + (rn - 7)) c3) (no + (rn - 7)) ((ob ++ Frm.body x).map bv))
                have HOL2 : Hid ((ob ++ Frm.body x).length = no + (rn - 7)) := Lib.hid (by rw [List.length_append, HOL.out, HBL.out])
                have hbnd : no + (rn - 7) ≤ (p + 1) * 1000000 := by omega
                have hpm : p * 1000000 ≤ 1000000 * 1000000 := Nat.mul_le_mul (by omega) (Nat.le_refl _)
                subst hs
                by_cases h2 : 2 ≤ m
                · have h2' : decide (2 ≤ (m : Int)) = true := decide_eq_true (by omega)
                  have hJ := HJ2.out
                  rw [if_pos h2] at hJ
                  simp only [Prod.mk.injEq] at hJ
                  obtain ⟨rfl, rfl, rfl⟩ := hJ
                  clear HJ2
                  go_wp2_with (at_builtin; go_loud (refine appB _ rfl (.tmp 69) (.tmp 71) rfl w.heap.size Ao no co (ob.map bv) rfl HO3.out _ A7 (rn - 7) (rc - 7) ((Frm.body x).map bv) rfl (by rw [List.length_map]; exact HBL.out) (HRB.out.below HB3.out) one_bytes (by omega) hsz3 ?_; intro A4 c4 w4 ho4 hg4 hb4; have HO4 := Lib.hid (HOB.out A4 c4 w4 ho4); have HB4 := Lib.hid (HB3.out.trans hb4); have hx4 := (HB4.out.cell (p := ra) hra).trans hx0; clear ho4 hg4 hb4))
                  first | go_ret3
                  exact ⟨A4, no + (rn - 7), c4, by simp, by simpa using HOL2.out, by simpa using HO4.out, HB4.out⟩
                · have h2' : decide (2 ≤ (m : Int)) = false := decide_eq_false (by omega)
                  rw [if_neg h2] at HJ2
                  go_wp2_with (at_builtin; go_loud (refine appB _ rfl (.tmp 69) (.tmp 71) rfl w.heap.size Ao no co (ob.map bv) rfl HO3.out _ A7 (rn - 7) (rc - 7) ((Frm.body x).map bv) rfl (by rw [List.length_map]; exact HBL.out) (HRB.out.below HB3.out) one_bytes (by omega) hsz3 ?_; intro A4 c4 w4 ho4 hg4 hb4; have HO4 := Lib.hid (HOB.out A4 c4 w4 ho4); have HB4 := Lib.hid (HB3.out.trans hb4); have hx4 := (HB4.out.cell (p := ra) hra).trans hx0; clear ho4 hg4 hb4))
                  go_roundw
                  case rel => exact ⟨p + 1, Frm.want x, ob ++ Frm.body x, A4, no + (rn - 7), c4, by go_num, hlt, rfl, rfl, hbnd, HOL2, HO4, HB4, HJ2⟩
                  case measure => simp [intOf]; omega
              · have hpx : (px == x) = false := by simpa using fun e => hs (HPE.out.1 e)
                have hJ := HJ2.out
                rw [if_pos hs] at hJ
                simp only [Prod.mk.injEq] at hJ
                obtain ⟨rfl, rfl, rfl⟩ := hJ
                clear hs HJ2
                go_wp2
                first | go_ret3
                exact ⟨none, 0, 0, rfl, rfl, World.ownsRow_nil _ _ _ _, HB3.out⟩
            · have h3 : (x1 == x2) = false := by simpa using hxx
              have hJ := HJ.out
              rw [Frm.joinF, if_pos (.inr (fun h => hxx (HIF.out.2 h)))] at hJ
              simp only [Prod.mk.injEq] at hJ
              obtain ⟨rfl, rfl, rfl⟩ := hJ
              clear hxx HJ
              go_wp2_with fail
              refine HG1.out.mono ?_
              rintro e w' ⟨rfl, rfl⟩
              go_wp2
              first | go_ret3
              exact ⟨none, 0, 0, rfl, rfl, World.ownsRow_nil _ _ _ _, HB.out⟩
          · have hok : Frm.ok x = false := by rw [HOKD.out, decide_eq_false hm3, Bool.and_false]
            have e2 : decide (3 < (m : Int)) = true := decide_eq_true (by omega)
            have hJ := HJ.out
            rw [Frm.joinF, if_pos (.inl hok)] at hJ
            simp only [Prod.mk.injEq] at hJ
            obtain ⟨rfl, rfl, rfl⟩ := hJ
            clear hok HJ he hm3
            go_wp2_with fail
            refine HG1.out.mono ?_
            rintro e w' ⟨rfl, rfl⟩
            go_wp2
            first | go_ret3
            exact ⟨none, 0, 0, rfl, rfl, World.ownsRow_nil _ _ _ _, HB.out⟩
        · have hok : Frm.ok x = false := by rw [HOKD.out, decide_eq_false he, Bool.false_and]
          have e1 : ((l : Int) != (rn : Int) - 7) = true := by simp; omega
          have e1' : ((l : Int) == (rn : Int) - 7) = false := by simp; omega
          have hJ := HJ.out
          rw [Frm.joinF, if_pos (.inl hok)] at hJ
          simp only [Prod.mk.injEq] at hJ
          obtain ⟨rfl, rfl, rfl⟩ := hJ
          clear hok HJ he
          go_wp2_with fail
          refine HG1.out.mono ?_
          rintro e w' ⟨rfl, rfl⟩
          go_wp2
          first | go_ret3
          exact ⟨none, 0, 0, rfl, rfl, World.ownsRow_nil _ _ _ _, HB.out⟩
    · obtain rfl : p = n := by omega
      have hJ := HJ.out
      rw [List.drop_of_length_le (by rw [List.length_map, HL.out]; exact Nat.le_refl _), Frm.joinF] at hJ
      simp only [Prod.mk.injEq] at hJ
      obtain ⟨rfl, rfl, rfl⟩ := hJ
      clear HJ
      go_wp2
      first | go_ret3
      exact ⟨none, 0, 0, rfl, rfl, World.ownsRow_nil _ _ _ _, HB.out⟩
end Cib
