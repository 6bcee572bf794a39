/- The document's Update. -/
import Derived.Test.YtmfilmkdaokbbaaDltU
set_option linter.unusedVariables false
set_option linter.unusedSimpArgs false
set_option maxRecDepth 40000
namespace Cib
open Go Go.RowKit Go.Proofs
theorem wp_appR {w : World} {o : Oper} {a : Act} {K : Act → World → Prop} {Q : Exit → Act → World → Prop} (s x : Operand)
    (ho : o.op = .call { callee := .builtin .append, args := #[s, x], argTypes := #[23, 23] })
    (base : Nat) (A0 : Option Addr) (n0 c0 : Nat) (xs : List Value) (hs : a.eval s = .slice A0 n0 c0) (hown : w.ownsRow base 22 1 (.slice A0 n0 c0) n0 xs)
    (B : Nat) (A : Option Addr) (m c : Nat) (news : List Value) (hx : a.eval x = .slice A m c) (hm : news.length = m) (hr : Rd w B A news) (h1 : ∀ u ∈ news, u.oneCell' = true)
    (hbytes : n0 + m ≤ 1000000000) (hbase : base ≤ w.heap.size)
    (h : ∀ A' c' w', w'.ownsRow base 22 1 (.slice A' (n0 + m) c') (n0 + m) (xs ++ news) → w.grownBy w' (Value.slice A0 n0 c0).ownBlock → Below base w w' → K (a.put o.dst (.slice A' (n0 + m) c')) w') :
    o.wp Try.prog a w K Q := by
  obtain ⟨i0, hi, hz0, hz1, hz2⟩ := info_parts infoRow
  obtain ⟨A', c', w', hrun, h2, h3, h4⟩ := run_app (P := Try.prog) w base 23 o.type 22 i0 _ 24 Try.underlying23 hi hz0 hz1 hz2 rfl A0 n0 c0 xs hown B A m c news hm hr h1 (by unfold maxLen; omega) (by omega) hbase
  unfold Oper.wp execOp
  simp only [ho, resolve, invoke, builtin, Sem.run_bind, Sem.run_pure, Result.andThen_ok, List.map_toArray, List.map_cons, List.map_nil, hs, hx, hrun]
  exact h A' c' w' h2 h3 h4
theorem bss_drop_get (X : List (List UInt8)) (k p : Nat) : (X.drop k).getD p [] = X.getD (k + p) [] := by simp [List.getD]
set_option maxHeartbeats 1600000 in
/-- The document's Update where the change may be: rows, or none. -/
theorem refUpdate7 (k m j : Nat) (hj : j < k) (hs : k + m ≤ 255) (B : Nat) (Ao An : Option Addr) (no co nn cn : Nat) (old now : List UInt8) (w : World) (ho : Rd w B Ao (old.map bv)) (hn : Rd w B An (now.map bv)) (hol : old.length = no) (hnl : now.length = nn) (hB : B ≤ w.heap.size) (hlo : no ≤ 1000000) (hln : nn ≤ 1000000)
    (L : List RowB) (Ap : Option Addr) (np cp : Nat) (hp : Rd w B Ap (L.map RowB.v)) (hP : RowsAt w B L) (hpl : L.length = np) (hpm : np ≤ 1000000) (hrn : ∀ r ∈ L, r.n ≤ 1000000) (ok : Bool) (hok : ok = true ↔ (no = nn ∧ np = m ∧ ∀ r ∈ L, r.n = no)) (D : List (List UInt8)) (err : Int) (hD1 : ok = true → D = Dlt.upd k m j old now (bss L) ∧ err = 0) (hD2 : ok = false → D = [] ∧ err = 2) :
    Calls Try.prog 15 #[.int .i64 (k : Int), .int .i64 (m : Int), .int .i64 (j : Int), .slice Ao no co, .slice An nn cn, .slice Ap np cp] w (AnyR D err w) := by
  have HSM := Lib.hid (refSum7 Ao An no co nn cn old now B w ho hn hol hnl hB (by omega) (by omega))
  have HAL : Hid ((addB old now).length = min no nn) := (show _ = _ by rw [addB_length, hol, hnl])
  have HP := Lib.hid hp
  have HPP := Lib.hid hP
  have HPL := Lib.hid hpl
  have HRN := Lib.hid hrn
  have HOK := Lib.hid hok
  have HD1 := Lib.hid hD1
  have HD2 := Lib.hid hD2
  clear ho hn hol hnl hp hP hpl hrn hok hD1 hD2
  go_enter Try.func15, Try.ntmps15
  go_wp2_with fail
  refine HSM.out.mono ?_
  rintro e w2 ⟨A2, n2, c2, rfl, hn2, ho2, hb2⟩
  rw [HAL.out] at hn2
  have HSP := Lib.hid (refSpread7 k m j hj hs w2.heap.size A2 n2 c2 (addB old now) w2 (Rd.of_own ho2) (by rw [HAL.out, hn2]) (Nat.le_refl _) (by omega))
  have HB2 := Lib.hid hb2
  have hn2' : n2 ≤ 1000000 := by omega
  clear ho2 hb2 HSM hn2
  go_wp2_with fail
  refine HSP.out.mono ?_
  rintro e w3 ⟨A3, n3, c3, S, rfl, hS, hn3, ho3, hR3, hb3⟩
  obtain rfl : n3 = k + m := by
    have := congrArg List.length hS
    rw [List.length_map, Dlt.spread_length] at this
    omega
  have HB3 := Lib.hid (HB2.out.via hb3)
  have HS : Hid (bss S = Dlt.spread k j (addB old now) (k + m)) := hS
  have HN3 := Lib.hid hn3
  have HRS := Lib.hid (Rd.of_own ho3)
  have HAS := Lib.hid hR3.at
  have HP3 := Lib.hid (HP.out.below (HB3.out.mono hB))
  have HPP3 : Hid (RowsAt w3 B L) := fun r hr => (HPP.out r hr).below (HB3.out.mono hB)
  have hBw : B ≤ w3.heap.size := Nat.le_trans hB HB3.out.size
  clear hS hn3 ho3 hR3 hb3 HB2 HSP HP HPP
  by_cases h1 : no = nn
  · subst h1
    have hne : ((no : Int) != (no : Int)) = false := by simp
    by_cases h2 : np = m
    · subst h2
      have hne2 : ((np : Int) != (np : Int)) = false := by simp
      go_wp2
      go_loopw [16, 17] (fun l i wr => ∃ (p : Nat) (A' : Option Addr) (c' : Nat) (M : List RowB), i = .int .i64 p ∧ p ≤ np ∧ l = .slice A' p c' ∧ Hid (∀ q (h : q < L.length), q < p → L[q].n = no) ∧ Hid (MadeI w3 (Dlt.adds (bss L) ((Dlt.spread k j (addB old now) (k + np)).drop k) p) A' c' M wr)) (fun _ i _ => np - (intOf i).toNat)
      case atStart => exact ⟨0, none, 0, [], rfl, Nat.zero_le _, rfl, fun q _ hq => by omega, MadeI.nil w3 w3 0 (Below.refl _ _)⟩
      case round =>
        obtain ⟨p, A', c', M, rfl, hp, rfl, HALL, HI⟩ := hrel
        have HML := Lib.hid HI.out.len
        rw [Dlt.adds_length] at HML
        have hz := HI.out.below.size
        by_cases hlt : p < np
        · have hp1 : p < L.length := by rw [HPL.out]; exact hlt
          have hp2 : k + p < S.length := by rw [HN3.out]; omega
          obtain ⟨ad1, rfl, hab1, hcell1⟩ := (HP3.out.below (HI.out.below.mono hBw)).row hp1
          obtain ⟨ad2, rfl, hab2, hcell2⟩ := (HRS.out.below HI.out.below).row hp2
          have hq1 := (HPP3.out.get hp1).below (HI.out.below.mono hBw)
          have hq2 := (HAS.out.get hp2).below HI.out.below
          have hrn1 := HRN.out _ (List.getElem_mem hp1)
          have HG1 : Hid ((bss L).getD p [] = L[p].bs) := (show _ = _ from bss_get hp1)
          have HG2 : Hid ((bss S).getD (k + p) [] = S[k + p].bs) := (show _ = _ from bss_get hp2)
          have hl2 : S[k + p].bs.length = no := by
            rw [← HG2.out, HS.out]
            simp only [Dlt.spread, List.getD, List.getElem?_map, List.getElem?_range (show k + p < k + np by omega), Option.map_some, Option.getD_some]
            rw [scB_length, HAL.out, Nat.min_self]
          by_cases he1 : L[p].n = no
          · have HALL2 : Hid (∀ q (h : q < L.length), q < p + 1 → L[q].n = no) := fun q h hq => by
              by_cases hqp : q = p
              · subst hqp
                exact he1
              · exact HALL.out q h (by omega)
            rw [HS.out, ← bss_drop_get] at HG2
            generalize L[p] = r1 at *
            generalize S[k + p] = r2 at *
            obtain ⟨rA1, rn1, rc1, x1⟩ := r1
            obtain ⟨rA2, rn2, rc2, x2⟩ := r2
            simp only at hcell1 hcell2 he1 hl2 HG1 HG2
            subst he1
            obtain rfl : rn2 = rn1 := by have := hq2.len; simp only at this; omega
            have HAD := Lib.hid (refSum7 rA1 rA2 rn2 rc1 rn2 rc2 x1 x2 wr.heap.size wr.drew ((hq1.rd.more (Nat.le_trans hBw hz)).drewN 1) ((hq2.rd.more hz).drewN 1) hq1.len hq2.len (Nat.le_refl _) (by omega) (by omega))
            have HPU := Lib.hid (fun A5 n5 c5 w5 hb ho A6 c6 w6 ho6 hg6 hb6 => MadeI.push (wr := wr.drew) (w2 := w5) (w3 := w6) (A3 := A6) (c3 := c6) (x := addB x1 x2) (r := ⟨A5, n5, c5, addB x1 x2⟩) ⟨HI.out.bs, HI.out.own, HI.out.rows.drewN 1, below_drewN HI.out.below 1⟩ rfl hb ho ho6 hg6 hb6)
            rw [Dlt.adds_length] at HPU
            have HNX : Hid (Dlt.adds (bss L) ((Dlt.spread k j (addB old now) (k + np)).drop k) p ++ [addB x1 x2] = Dlt.adds (bss L) ((Dlt.spread k j (addB old now) (k + np)).drop k) (p + 1)) := (show _ = _ by rw [Dlt.adds_next, HG1.out, HG2.out])
            rw [HNX.out] at HPU
            have HOO : Hid (wr.drew.ownsRow w3.heap.size 22 1 (.slice A' p c') p (M.map RowB.v)) := by
              have := HI.out.own
              rw [Dlt.adds_length] at this
              exact this
            have hca1 : wr.drew.cell? (ad1.add p) = some (.slice rA1 rn2 rc1) := hcell1
            have hca2 : wr.drew.cell? (ad2.add (k + p)) = some (.slice rA2 rn2 rc2) := hcell2
            have hg1 : (ad1.add p).block < w3.heap.size := by rw [addr_add_block]; omega
            have hg2 : (ad2.add (k + p)).block < w3.heap.size := by rw [addr_add_block]; exact hab2
            have hkw : IntKind.i64.wrap ((k : Int) + (p : Int)) = ((k : Int) + (p : Int)) := by rw [IntKind.wrap_i64]; omega
            have hne3 : ((rn2 : Int) != (rn2 : Int)) = false := by simp
            have hkp0 : (0 : Int) ≤ (k : Int) + (p : Int) := by omega
            have hkpt : ((k : Int) + (p : Int)).toNat = k + p := by omega
            have hkpl : (k : Int) + (p : Int) < (k : Int) + (np : Int) := by omega
            clear hq1 hq2 hcell2 HI HG1 HG2 HNX hl2 HALL
            go_wp2
            refine wp_region_held_drew (S := (fun wQq => Below w3.heap.size wr.drew wQq)) (by kernel_rfl) (Below.refl _ _) (fun _ => ?_)
            refine wpAnyH_take (i := 0) (v := ?_) rfl (by kernel_rfl) (by kernel_rfl) (by kernel_rfl) (fun _ _ _ h => h) (Or.inl ⟨by rfl, ?_⟩) (Below.refl _ _) ?_
            rotate_left
            · intro wS hSw
              go_simp
              try with_reducible rfl
            try simp only [List.getElem_toArray, List.getElem_cons_zero, List.getElem_cons_succ, Act.put, List.setIfInBounds_toArray, List.set_cons_zero, List.set_cons_succ]
            refine wpAnyH_take (i := 1) (v := ?_) rfl (by kernel_rfl) (by kernel_rfl) (by kernel_rfl) (fun _ _ _ h => h) (Or.inl ⟨by rfl, ?_⟩) (Below.refl _ _) ?_
            rotate_left
            · intro wS hSw
              go_simp
              try with_reducible rfl
            try simp only [List.getElem_toArray, List.getElem_cons_zero, List.getElem_cons_succ, Act.put, List.setIfInBounds_toArray, List.set_cons_zero, List.set_cons_succ]
            refine wpAnyH_take (i := 2) (v := ?_) rfl (by kernel_rfl) (by kernel_rfl) (by kernel_rfl) (fun _ _ _ h => h) (Or.inl ⟨by rfl, ?_⟩) (Below.refl _ _) ?_
            rotate_left
            · intro wS hSw
              go_simp
              try with_reducible rfl
            try simp only [List.getElem_toArray, List.getElem_cons_zero, List.getElem_cons_succ, Act.put, List.setIfInBounds_toArray, List.set_cons_zero, List.set_cons_succ]
            refine wpAnyH_take (i := 3) (v := ?_) rfl (by kernel_rfl) (by kernel_rfl) (by kernel_rfl) (fun _ _ _ h => h) (Or.inl ⟨by rfl, ?_⟩) (Below.refl _ _) ?_
            rotate_left
            · intro wS hSw
              go_simp
              try with_reducible rfl
            try simp only [List.getElem_toArray, List.getElem_cons_zero, List.getElem_cons_succ, Act.put, List.setIfInBounds_toArray, List.set_cons_zero, List.set_cons_succ]
            refine wpAnyH_take (i := 5) (v := ?_) rfl (by kernel_rfl) (by kernel_rfl) (by kernel_rfl) (fun _ _ _ h => h) (Or.inl ⟨by rfl, ?_⟩) (Below.refl _ _) ?_
            rotate_left
            · intro wS hSw
              go_simp
              try with_reducible rfl
            try simp only [List.getElem_toArray, List.getElem_cons_zero, List.getElem_cons_succ, Act.put, List.setIfInBounds_toArray, List.set_cons_zero, List.set_cons_succ]
            refine wpAnyH_take (i := 6) (v := ?_) rfl (by kernel_rfl) (by kernel_rfl) (by kernel_rfl) (fun _ _ _ h => h) (Or.inl ⟨by rfl, ?_⟩) (Below.refl _ _) ?_
            rotate_left
            · intro wS hSw
              go_simp
              try with_reducible rfl
            try simp only [List.getElem_toArray, List.getElem_cons_zero, List.getElem_cons_succ, Act.put, List.setIfInBounds_toArray, List.set_cons_zero, List.set_cons_succ]
            refine wpAnyH_take (i := 7) (v := ?_) rfl (by kernel_rfl) (by kernel_rfl) (by kernel_rfl) (fun _ _ _ h => h) (Or.inl ⟨by rfl, ?_⟩) (Below.refl _ _) ?_
            rotate_left
            · intro wS hSw
              go_simp
              try with_reducible rfl
            try simp only [List.getElem_toArray, List.getElem_cons_zero, List.getElem_cons_succ, Act.put, List.setIfInBounds_toArray, List.set_cons_zero, List.set_cons_succ]
            refine wpAnyH_take (i := 8) (v := ?_) rfl (by kernel_rfl) (by kernel_rfl) (by kernel_rfl) (fun _ _ _ h => h) (Or.inl ⟨by rfl, ?_⟩) (Below.refl _ _) ?_
            rotate_left
            · intro wS hSw
              go_simp
              try with_reducible rfl
            try simp only [List.getElem_toArray, List.getElem_cons_zero, List.getElem_cons_succ, Act.put, List.setIfInBounds_toArray, List.set_cons_zero, List.set_cons_succ]
            refine wpAnyH_take (i := 9) (v := ?_) rfl (by kernel_rfl) (by kernel_rfl) (by kernel_rfl) (fun _ _ _ h => h) (Or.inl ⟨by rfl, ?_⟩) (Below.refl _ _) ?_
            rotate_left
            · intro wS hSw
              go_simp
              try with_reducible rfl
            try simp only [List.getElem_toArray, List.getElem_cons_zero, List.getElem_cons_succ, Act.put, List.setIfInBounds_toArray, List.set_cons_zero, List.set_cons_succ]
            refine wpAnyH_take (i := 4) (v := ?_) rfl (by kernel_rfl) (by kernel_rfl) (by kernel_rfl) (fun _ _ _ h => h) (Or.inl ⟨by rfl, ?_⟩) (Below.refl _ _) ?_
            rotate_left
            · intro wS hSw
              have hcv := ((hSw.cell (p := ad1.add p) hg1).trans hca1)
              go_simp
              try with_reducible rfl
            try simp only [List.getElem_toArray, List.getElem_cons_zero, List.getElem_cons_succ, Act.put, List.setIfInBounds_toArray, List.set_cons_zero, List.set_cons_succ]
            refine wpAnyH_take (i := 10) (v := ?_) rfl (by kernel_rfl) (by kernel_rfl) (by kernel_rfl) (fun _ _ _ h => h) (Or.inl ⟨by rfl, ?_⟩) (Below.refl _ _) ?_
            rotate_left
            · intro wS hSw
              have hcv := ((hSw.cell (p := ad2.add (k + p)) hg2).trans hca2)
              go_simp
              try with_reducible rfl
            try simp only [List.getElem_toArray, List.getElem_cons_zero, List.getElem_cons_succ, Act.put, List.setIfInBounds_toArray, List.set_cons_zero, List.set_cons_succ]
            refine wpAnyH_ready (rs := [11]) (by kernel_rfl) (by simp) ?_
            refine AllReadyH.cons rfl (fun K hK => ?_) AllReadyH.nil
            go_simp
            refine HAD.out.mono ?_
            rintro e w5 ⟨A5, n5, c5, rfl, hn5, ho5, hb5⟩
            have HO5 := Lib.hid ho5
            have HB5 := Lib.hid hb5
            have hz5 : w3.heap.size ≤ w5.heap.size := Nat.le_trans hz hb5.size
            refine hK.out _ _ (hb5.mono hz) (fun _ => ?_)
            clear hK K
            try simp only [List.getElem_toArray, List.getElem_cons_zero, List.getElem_cons_succ, Act.put, List.setIfInBounds_toArray, List.set_cons_zero, List.set_cons_succ]
            refine wpAnyH_ready (rs := [12]) (by kernel_rfl) (by simp) ?_
            refine AllReadyH.cons rfl (fun K hK => ?_) AllReadyH.nil
            go_simp
            refine hK.out _ _ ((hb5.mono hz).alloc hz5 _) (fun _ => ?_)
            clear hK K
            try simp only [List.getElem_toArray, List.getElem_cons_zero, List.getElem_cons_succ, Act.put, List.setIfInBounds_toArray, List.set_cons_zero, List.set_cons_succ]
            refine wpAnyH_ready (rs := [13]) (by kernel_rfl) (by simp) ?_
            refine AllReadyH.cons rfl (fun K hK => ?_) AllReadyH.nil
            refine wp_appR (.tmp 56) (.tmp 68) rfl w3.heap.size A' p c' (M.map RowB.v) rfl ((own_via HOO.out HB5.out).alloc _) _ (some ⟨w5.heap.size, 0, none⟩) 1 1 [.slice A5 n5 c5] rfl rfl (Rd.new w5 _ _ _ rfl) (one_rows (L := [⟨A5, n5, c5, []⟩])) (by omega) (by simp; omega) ?_
            intro A6 c6 w6 ho6 hg6 hb6
            refine hK.out _ _ (((hb5.mono hz).alloc hz5 _).trans hb6) (fun _ => ?_)
            clear hK K
            try simp only [List.getElem_toArray, List.getElem_cons_zero, List.getElem_cons_succ, Act.put, List.setIfInBounds_toArray, List.set_cons_zero, List.set_cons_succ]
            refine wpAnyH_take (i := 14) (v := ?_) rfl (by kernel_rfl) (by kernel_rfl) (by kernel_rfl) (fun _ _ _ h => h) (Or.inl ⟨by rfl, ?_⟩) (((hb5.mono hz).alloc hz5 _).trans hb6) ?_
            rotate_left
            · intro wS hSw
              go_simp
              try with_reducible rfl
            try simp only [List.getElem_toArray, List.getElem_cons_zero, List.getElem_cons_succ, Act.put, List.setIfInBounds_toArray, List.set_cons_zero, List.set_cons_succ]
            refine wpAnyH_done (by kernel_rfl) ?_ _
            go_wp2
            go_roundw
            case rel => exact ⟨p + 1, A6, c6, _, by go_num, hlt, rfl, HALL2, HPU.out A5 n5 c5 w5 HB5.out HO5.out A6 c6 w6 ho6 hg6 hb6⟩
            case measure => simp [intOf]; omega
          · obtain rfl : ok = false := by
              cases ok with
              | false => rfl
              | true => exact absurd ((HOK.out.1 rfl).2.2 _ (List.getElem_mem hp1)) he1
            have HBN := Lib.hid (HB3.out.via HI.out.below)
            generalize L[p] = r1 at *
            have hne3 : ((r1.n : Int) != (no : Int)) = true := by rw [bne_iff_ne]; omega
            clear hq1 hq2 hcell2 HI hl2 HALL HG1 HG2
            go_wp2
            first | go_ret2 | go_ret
            obtain ⟨e1, e2⟩ := HD2.out (by trivial)
            subst e1
            subst e2
            exact AnyR.none rfl HBN.out
        · obtain rfl : p = np := by omega
          obtain rfl : ok = true := HOK.out.2 ⟨by trivial, by trivial, fun r hr => by
            obtain ⟨q, hq, rfl⟩ := List.mem_iff_getElem.1 hr
            exact HALL.out q hq (by rw [← HPL.out]; exact hq)⟩
          have hI := HI.out
          have ho := hI.own
          rw [Dlt.adds_length] at ho
          have HZ := Lib.hid HB3.out.size
          go_wp2
          first | go_ret2 | go_ret
          obtain ⟨e1, e2⟩ := HD1.out (by trivial)
          subst e1
          subst e2
          exact NewR.any ⟨A', p, c', M, rfl, hI.bs, HML.out, own_lower1 ho HZ.out, hI.rows.lower HZ.out, HB3.out.via hI.below⟩
    · obtain rfl : ok = false := by
        cases ok with
        | false => rfl
        | true => exact absurd (HOK.out.1 rfl).2.1 h2
      have hne2 : ((np : Int) != (m : Int)) = true := by rw [bne_iff_ne]; omega
      go_wp2
      first | go_ret2 | go_ret
      obtain ⟨e1, e2⟩ := HD2.out (by trivial)
      subst e1
      subst e2
      exact AnyR.none rfl HB3.out
  · obtain rfl : ok = false := by
      cases ok with
      | false => rfl
      | true => exact absurd (HOK.out.1 rfl).1 h1
    have hne : ((no : Int) != (nn : Int)) = true := by rw [bne_iff_ne]; omega
    go_wp2
    first | go_ret2 | go_ret
    obtain ⟨e1, e2⟩ := HD2.out (by trivial)
    subst e1
    subst e2
    exact AnyR.none rfl HB3.out
theorem refUpdate7No (k m j : Int) (hj : ¬ (0 ≤ j ∧ j < k)) (B : Nat) (Ao An : Option Addr) (no co nn cn : Nat) (old now : List UInt8) (w : World) (ho : Rd w B Ao (old.map bv)) (hn : Rd w B An (now.map bv)) (hol : old.length = no) (hnl : now.length = nn) (hB : B ≤ w.heap.size) (hlo : no ≤ 1000000) (hln : nn ≤ 1000000) (v : Value) :
    Calls Try.prog 15 #[.int .i64 k, .int .i64 m, .int .i64 j, .slice Ao no co, .slice An nn cn, v] w (AnyR [] 2 w) := by
  have HSM := Lib.hid (refSum7 Ao An no co nn cn old now B w ho hn hol hnl hB (by omega) (by omega))
  have HSP := Lib.hid (fun v w => refSpread7No k m j hj v w)
  clear ho hn hol hnl hj
  go_enter Try.func15, Try.ntmps15
  go_wp2_with fail
  refine HSM.out.mono ?_
  rintro e w2 ⟨A2, n2, c2, rfl, hn2, ho2, hb2⟩
  have HB2 := Lib.hid hb2
  clear ho2 hb2 HSM hn2
  go_wp2_with fail
  refine (HSP.out _ _).mono ?_
  rintro e w3 ⟨rfl, rfl⟩
  go_wp2
  first | go_ret2 | go_ret
  exact AnyR.none rfl HB2.out
end Cib
