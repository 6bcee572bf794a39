/- A matrix at work in memory: eliminate. -/
import Derived.Test.YtnicfpkadiamaaaMatY
set_option linter.unusedVariables false
set_option linter.unusedSimpArgs false
set_option maxRecDepth 40000
namespace Cib
open Go Go.RowKit Go.Proofs
/-- Two rows in each other's place. -/
def swapR (L : List RowB) (a b : Nat) (ra rb : RowB) : List RowB := (L.set a rb).set b ra
theorem swapR_bs {L : List RowB} {a b : Nat} (ha : a < L.length) (hb : b < L.length) : bsL (swapR L a b L[a] L[b]) = Lin.swapL (bsL L) a b := by
  unfold swapR Lin.swapL
  rw [bsL_set, bsL_set, bsL_get ha, bsL_get hb]
theorem WkI.wid' {w0 wr : World} {g gw gr n W c : Nat} {L : List RowB} (h : WkI w0 g gw gr n W c L wr) : Lin.Wid W (bsL L) := fun r hr => by
  obtain ⟨s, hs, rfl⟩ := List.mem_map.1 hr
  rw [← h.wid s hs]
  exact (h.dat.at s hs).len
set_option maxHeartbeats 4000000 in
theorem matElim {w0 wr : World} {g gw gr n W c : Nat} {L : List RowB} (h : WkI w0 g gw gr n W c L wr) (cols : Nat) (hcw : cols ≤ W) (hn : n ≤ 65536) (hW : W ≤ 65536) :
    Calls Try.prog 31 #[.pointer (some ⟨gw, 0, none⟩), .int .i64 (cols : Int)] wr fun e w' => ∃ (r : Nat) (L' : List RowB), e = .returned (.int .i64 (r : Int)) ∧ WkI w0 g gw gr n W c L' w' ∧ Lin.Elm n W (Lin.ent (bsL L)) cols r (Lin.ent (bsL L')) ∧ Same [22] wr w' := by
  obtain ⟨w9, hw9⟩ : ∃ w, w = wr := ⟨_, rfl⟩
  rw [← hw9]
  rw [← hw9] at h
  clear hw9
  have HI0 := Lib.hid h
  obtain ⟨T0, hT0⟩ : ∃ T, Lin.ent (bsL L) = T := ⟨_, rfl⟩
  have HE0 : Hid (Lin.Elm n W T0 0 0 (Lin.ent (bsL L))) := Lib.hid (by rw [← hT0]; exact Lin.Elm.start)
  rw [hT0]
  clear h hT0
  go_enter Try.func31, Try.ntmps31
  go_wp2
  go_loopw [5, 9] (fun d i wx => ∃ (k r : Nat) (Lk : List RowB), d = .int .i64 r ∧ i = .int .i64 k ∧ k ≤ cols ∧ r ≤ n ∧ Hid (WkI w0 g gw gr n W c Lk wx) ∧ Hid (Lin.Elm n W T0 k r (Lin.ent (bsL Lk))) ∧ Hid (Same [22] w9 wx)) (fun _ i _ => cols - (intOf i).toNat)
  case atStart => exact ⟨0, 0, L, rfl, rfl, Nat.zero_le _, Nat.zero_le _, HI0, HE0, Lib.hid (Same.refl _ _)⟩
  case round =>
    clear HI0 HE0
    obtain ⟨k, r, Lk, rfl, rfl, hk, hr, hI, hE, hS⟩ := hrel
    by_cases hlt : k < cols
    · have b1 := hI.out.b1
      by_cases hrn : r = n
      · have HF : Hid (Lin.Elm n W T0 cols r (Lin.ent (bsL Lk))) := Lib.hid (by
          have := hE.out
          subst hrn
          exact this.full hk)
        subst hrn
        clear hE
        go_wp2
        go_ret
        exact ⟨r, Lk, rfl, hI.out, HF.out, hS.out⟩
      · have hrl : r < n := by omega
        have hrd : ((r : Int) == (n : Int)) = false := by simp; omega
        have HPV := Lib.hid (matPivot hI.out r k (by omega) (by omega) hn hW)
        have HLN := Lib.hid hI.out.dat.len
        clear hrn
        go_wp2_with fail
        refine HPV.out.mono ?_
        rintro e w2 ⟨hpv, rfl⟩
        clear HPV
        rcases hpv with ⟨rfl, hz⟩ | ⟨q, rfl, hq1, hq2, hq3⟩
        · have HS : Hid (Lin.Elm n W T0 (k + 1) r (Lin.ent (bsL Lk))) := Lib.hid (hE.out.skip fun i h1 h2 => hz i h1 (by rw [bsL_length, HLN.out]; exact h2))
          clear hz hE b1
          go_wp2
          exact ⟨⟨k + 1, r, Lk, rfl, by go_num, hlt, hr, hI, HS, hS⟩, by simp [intOf]; omega⟩
        · rw [bsL_length, HLN.out] at hq2
          have hqL : q < Lk.length := by rw [HLN.out]; exact hq2
          have hrL : r < Lk.length := by rw [HLN.out]; exact hrl
          have HCE := Lib.hid (hE.out.clean (by rw [bsL_length]; exact HLN.out) hI.out.wid' hrl hq1 hq2 hq3 (by omega))
          have HSB := Lib.hid (swapR_bs hrL hqL)
          have HQ3 : Hid (Lin.ent (Lin.swapL (bsL Lk) r q) r k ≠ 0) := Lib.hid (by
            rw [Lin.swapL_ent (by rw [bsL_length]; exact hrL) (by rw [bsL_length]; exact hqL) (by rw [bsL_length]; exact hrL)]
            rw [show Lin.sw r q r = q from if_pos rfl]
            exact hq3)
          have cq := (hI.out.dat.cell hqL).1
          have cr := (hI.out.dat.cell hrL).1
          have fq := (hI.out.dat.cell hqL).2
          have fr := (hI.out.dat.cell hrL).2
          have hwq := hI.out.wid _ (List.getElem_mem hqL)
          have hwr := hI.out.wid _ (List.getElem_mem hrL)
          have hoq := hI.out.dat.rows _ (List.getElem_mem hqL)
          have hor := hI.out.dat.rows _ (List.getElem_mem hrL)
          have HK1 := Lib.hid (hI.out.put hrL Lk[q] hoq hwq 1)
          generalize hRQ : Lk[q] = rq at *
          generalize hRR : Lk[r] = rr at *
          obtain ⟨Aq, nq, kq, sq⟩ := rq
          obtain ⟨Ar, nr, kr, sr⟩ := rr
          simp only [RowB.v] at cq cr
          simp only at hwq hwr
          have HS2 : Hid (Same [22] w9 ((w2.drew.setCell ⟨gr, r, none⟩ (.slice Aq nq kq)).setCell ⟨gr, q, none⟩ (.slice Ar nr kr))) := Lib.hid ((hS.out.trans (hI.out.same_set r 1 _)).trans (HK1.out.same_set q 0 _))
          have hor1 : (w2.drew.setCell ⟨gr, r, none⟩ (.slice Aq nq kq)).ownsRow w0.heap.size 5 1 (.slice Ar nr kr) nr (sr.map bv) := ownsRow_setCell_other (w := w2.drew) hor (fun he => own_apart hor hI.out.dat.own he) _
          have HK2 : Hid (WkI w0 g gw gr n W c (swapR Lk r q ⟨Ar, nr, kr, sr⟩ ⟨Aq, nq, kq, sq⟩) ((w2.drew.setCell ⟨gr, r, none⟩ (.slice Aq nq kq)).setCell ⟨gr, q, none⟩ (.slice Ar nr kr))) := Lib.hid (HK1.out.put (by rw [List.length_set]; exact hqL) ⟨Ar, nr, kr, sr⟩ hor1 hwr 0)
          obtain ⟨uq, cq1⟩ : ∃ u, (w2.setCell ⟨gr, r, none⟩ (.slice Aq nq kq)).cell? ⟨gr, q, none⟩ = some u := ⟨_, (HK1.out.dat.cell (j := q) (by rw [List.length_set]; exact hqL)).1⟩
          have fq1 : (w2.setCell ⟨gr, r, none⟩ (.slice Aq nq kq)).frozen? ⟨gr, q, none⟩ = false := (HK1.out.dat.cell (j := q) (by rw [List.length_set]; exact hqL)).2
          have HP0 : Hid (w2.drew.cell? ⟨gw, 1, none⟩ = some (.slice (some ⟨gr, 0, none⟩) n c)) := Lib.hid hI.out.b1
          have HP1 : Hid ((w2.drew.setCell ⟨gr, r, none⟩ (.slice Aq nq kq)).cell? ⟨gw, 1, none⟩ = some (.slice (some ⟨gr, 0, none⟩) n c)) := Lib.hid HK1.out.b1
          have HP2 : Hid (((w2.drew.setCell ⟨gr, r, none⟩ (.slice Aq nq kq)).setCell ⟨gr, q, none⟩ (.slice Ar nr kr)).cell? ⟨gw, 1, none⟩ = some (.slice (some ⟨gr, 0, none⟩) n c)) := Lib.hid HK2.out.b1
          have cqd : w2.drew.cell? ⟨gr, q, none⟩ = some (.slice Aq nq kq) := cq
          have crd : w2.drew.cell? ⟨gr, r, none⟩ = some (.slice Ar nr kr) := cr
          have frd : w2.drew.frozen? ⟨gr, r, none⟩ = false := fr
          clear hwq hwr hoq hor hor1 hq1 hq3 cq cr fr fq hE hI HK1 b1 hrd hRQ hRR
          go_upto_region 9 with fail
          go_cut [5] (fun d wx => d = .int .i64 (r : Int) ∧ wx = (w2.drew.setCell ⟨gr, r, none⟩ (.slice Aq nq kq)).setCell ⟨gr, q, none⟩ (.slice Ar nr kr))
          case first =>
            go_wp2
            refine wp_region_held_drew (S := (fun wQq => wQq.cell? ⟨gw, 1, none⟩ = some (.slice (some ⟨gr, 0, none⟩) n c))) (by kernel_rfl) (HP0.out) (fun _ => ?_)
            refine wpAnyH_take (i := 0) (v := ?_) rfl (by kernel_rfl) (by kernel_rfl) (by kernel_rfl) (fun _ _ _ h => h) (Or.inl ⟨by rfl, ?_⟩) (HP0.out) ?_
            rotate_left
            · intro wS hSw
              go_simp
              try with_reducible rfl
            try simp only [List.getElem_toArray, List.getElem_cons_zero, List.getElem_cons_succ, Act.put, List.setIfInBounds_toArray, List.set_cons_zero, List.set_cons_succ]
            refine wpAnyH_take (i := 1) (v := ?_) rfl (by kernel_rfl) (by kernel_rfl) (by kernel_rfl) (fun _ _ _ h => h) (Or.inl ⟨by rfl, ?_⟩) (HP0.out) ?_
            rotate_left
            · intro wS hSw
              go_simp
              try with_reducible rfl
            try simp only [List.getElem_toArray, List.getElem_cons_zero, List.getElem_cons_succ, Act.put, List.setIfInBounds_toArray, List.set_cons_zero, List.set_cons_succ]
            refine wpAnyH_take (i := 2) (v := ?_) rfl (by kernel_rfl) (by kernel_rfl) (by kernel_rfl) (fun _ _ _ h => h) (Or.inl ⟨by rfl, ?_⟩) (HP0.out) ?_
            rotate_left
            · intro wS hSw
              go_simp
              try with_reducible rfl
            try simp only [List.getElem_toArray, List.getElem_cons_zero, List.getElem_cons_succ, Act.put, List.setIfInBounds_toArray, List.set_cons_zero, List.set_cons_succ]
            refine wpAnyH_take (i := 4) (v := ?_) rfl (by kernel_rfl) (by kernel_rfl) (by kernel_rfl) (fun _ _ _ h => h) (Or.inl ⟨by rfl, ?_⟩) (HP0.out) ?_
            rotate_left
            · intro wS hSw
              go_simp
              try with_reducible rfl
            try simp only [List.getElem_toArray, List.getElem_cons_zero, List.getElem_cons_succ, Act.put, List.setIfInBounds_toArray, List.set_cons_zero, List.set_cons_succ]
            refine wpAnyH_take (i := 5) (v := ?_) rfl (by kernel_rfl) (by kernel_rfl) (by kernel_rfl) (fun _ _ _ h => h) (Or.inl ⟨by rfl, ?_⟩) (HP0.out) ?_
            rotate_left
            · intro wS hSw
              go_simp
              try with_reducible rfl
            try simp only [List.getElem_toArray, List.getElem_cons_zero, List.getElem_cons_succ, Act.put, List.setIfInBounds_toArray, List.set_cons_zero, List.set_cons_succ]
            refine wpAnyH_take (i := 6) (v := ?_) rfl (by kernel_rfl) (by kernel_rfl) (by kernel_rfl) (fun _ _ _ h => h) (Or.inl ⟨by rfl, ?_⟩) (HP0.out) ?_
            rotate_left
            · intro wS hSw
              go_simp
              try with_reducible rfl
            try simp only [List.getElem_toArray, List.getElem_cons_zero, List.getElem_cons_succ, Act.put, List.setIfInBounds_toArray, List.set_cons_zero, List.set_cons_succ]
            refine wpAnyH_take (i := 7) (v := ?_) rfl (by kernel_rfl) (by kernel_rfl) (by kernel_rfl) (fun _ _ _ h => h) (Or.inl ⟨by rfl, ?_⟩) (HP0.out) ?_
            rotate_left
            · intro wS hSw
              go_simp
              try with_reducible rfl
            try simp only [List.getElem_toArray, List.getElem_cons_zero, List.getElem_cons_succ, Act.put, List.setIfInBounds_toArray, List.set_cons_zero, List.set_cons_succ]
            refine wpAnyH_take (i := 9) (v := ?_) rfl (by kernel_rfl) (by kernel_rfl) (by kernel_rfl) (fun _ _ _ h => h) (Or.inl ⟨by rfl, ?_⟩) (HP0.out) ?_
            rotate_left
            · intro wS hSw
              go_simp
              try with_reducible rfl
            try simp only [List.getElem_toArray, List.getElem_cons_zero, List.getElem_cons_succ, Act.put, List.setIfInBounds_toArray, List.set_cons_zero, List.set_cons_succ]
            refine wpAnyH_take (i := 10) (v := ?_) rfl (by kernel_rfl) (by kernel_rfl) (by kernel_rfl) (fun _ _ _ h => h) (Or.inl ⟨by rfl, ?_⟩) (HP0.out) ?_
            rotate_left
            · intro wS hSw
              go_simp
              try with_reducible rfl
            try simp only [List.getElem_toArray, List.getElem_cons_zero, List.getElem_cons_succ, Act.put, List.setIfInBounds_toArray, List.set_cons_zero, List.set_cons_succ]
            refine wpAnyH_take (i := 11) (v := ?_) rfl (by kernel_rfl) (by kernel_rfl) (by kernel_rfl) (fun _ _ _ h => h) (Or.inl ⟨by rfl, ?_⟩) (HP0.out) ?_
            rotate_left
            · intro wS hSw
              go_simp
              try with_reducible rfl
            try simp only [List.getElem_toArray, List.getElem_cons_zero, List.getElem_cons_succ, Act.put, List.setIfInBounds_toArray, List.set_cons_zero, List.set_cons_succ]
            refine wpAnyH_take (i := 12) (v := ?_) rfl (by kernel_rfl) (by kernel_rfl) (by kernel_rfl) (fun _ _ _ h => h) (Or.inl ⟨by rfl, ?_⟩) (HP0.out) ?_
            rotate_left
            · intro wS hSw
              go_simp
              try with_reducible rfl
            try simp only [List.getElem_toArray, List.getElem_cons_zero, List.getElem_cons_succ, Act.put, List.setIfInBounds_toArray, List.set_cons_zero, List.set_cons_succ]
            refine wpAnyH_take (i := 14) (v := ?_) rfl (by kernel_rfl) (by kernel_rfl) (by kernel_rfl) (fun _ _ _ h => h) (Or.inl ⟨by rfl, ?_⟩) (HP0.out) ?_
            rotate_left
            · intro wS hSw
              go_simp
              try with_reducible rfl
            try simp only [List.getElem_toArray, List.getElem_cons_zero, List.getElem_cons_succ, Act.put, List.setIfInBounds_toArray, List.set_cons_zero, List.set_cons_succ]
            refine wpAnyH_take (i := 17) (v := ?_) rfl (by kernel_rfl) (by kernel_rfl) (by kernel_rfl) (fun _ _ _ h => h) (Or.inl ⟨by rfl, ?_⟩) (HP0.out) ?_
            rotate_left
            · intro wS hSw
              go_simp
              try with_reducible rfl
            try simp only [List.getElem_toArray, List.getElem_cons_zero, List.getElem_cons_succ, Act.put, List.setIfInBounds_toArray, List.set_cons_zero, List.set_cons_succ]
            refine wpAnyH_take (i := 18) (v := ?_) rfl (by kernel_rfl) (by kernel_rfl) (by kernel_rfl) (fun _ _ _ h => h) (Or.inl ⟨by rfl, ?_⟩) (HP0.out) ?_
            rotate_left
            · intro wS hSw
              go_simp
              try with_reducible rfl
            try simp only [List.getElem_toArray, List.getElem_cons_zero, List.getElem_cons_succ, Act.put, List.setIfInBounds_toArray, List.set_cons_zero, List.set_cons_succ]
            refine wpAnyH_take (i := 19) (v := ?_) rfl (by kernel_rfl) (by kernel_rfl) (by kernel_rfl) (fun _ _ _ h => h) (Or.inl ⟨by rfl, ?_⟩) (HP0.out) ?_
            rotate_left
            · intro wS hSw
              go_simp
              try with_reducible rfl
            try simp only [List.getElem_toArray, List.getElem_cons_zero, List.getElem_cons_succ, Act.put, List.setIfInBounds_toArray, List.set_cons_zero, List.set_cons_succ]
            refine wpAnyH_take (i := 21) (v := ?_) rfl (by kernel_rfl) (by kernel_rfl) (by kernel_rfl) (fun _ _ _ h => h) (Or.inl ⟨by rfl, ?_⟩) (HP0.out) ?_
            rotate_left
            · intro wS hSw
              go_simp
              try with_reducible rfl
            try simp only [List.getElem_toArray, List.getElem_cons_zero, List.getElem_cons_succ, Act.put, List.setIfInBounds_toArray, List.set_cons_zero, List.set_cons_succ]
            refine wpAnyH_take (i := 3) (v := ?_) rfl (by kernel_rfl) (by kernel_rfl) (by kernel_rfl) (fun _ _ _ h => h) (Or.inl ⟨by rfl, ?_⟩) (HP0.out) ?_
            rotate_left
            · intro wS hSw
              have hcv := hSw
              go_simp
              try with_reducible rfl
            try simp only [List.getElem_toArray, List.getElem_cons_zero, List.getElem_cons_succ, Act.put, List.setIfInBounds_toArray, List.set_cons_zero, List.set_cons_succ]
            refine wpAnyH_take (i := 8) (v := ?_) rfl (by kernel_rfl) (by kernel_rfl) (by kernel_rfl) (fun _ _ _ h => h) (Or.inl ⟨by rfl, ?_⟩) (HP0.out) ?_
            rotate_left
            · intro wS hSw
              have hcv := hSw
              go_simp
              try with_reducible rfl
            try simp only [List.getElem_toArray, List.getElem_cons_zero, List.getElem_cons_succ, Act.put, List.setIfInBounds_toArray, List.set_cons_zero, List.set_cons_succ]
            refine wpAnyH_take (i := 13) (v := ?_) rfl (by kernel_rfl) (by kernel_rfl) (by kernel_rfl) (fun _ _ _ h => h) (Or.inl ⟨by rfl, ?_⟩) (HP0.out) ?_
            rotate_left
            · intro wS hSw
              have hcv := hSw
              go_simp
              try with_reducible rfl
            try simp only [List.getElem_toArray, List.getElem_cons_zero, List.getElem_cons_succ, Act.put, List.setIfInBounds_toArray, List.set_cons_zero, List.set_cons_succ]
            refine wpAnyH_take (i := 15) (v := ?_) rfl (by kernel_rfl) (by kernel_rfl) (by kernel_rfl) (fun _ _ _ h => h) (Or.inl ⟨by rfl, ?_⟩) (HP0.out) ?_
            rotate_left
            · intro wS hSw
              go_simp
              try with_reducible rfl
            try simp only [List.getElem_toArray, List.getElem_cons_zero, List.getElem_cons_succ, Act.put, List.setIfInBounds_toArray, List.set_cons_zero, List.set_cons_succ]
            refine wpAnyH_take (i := 20) (v := ?_) rfl (by kernel_rfl) (by kernel_rfl) (by kernel_rfl) (fun _ _ _ h => h) (Or.inl ⟨by rfl, ?_⟩) (HP0.out) ?_
            rotate_left
            · intro wS hSw
              have hcv := hSw
              go_simp
              try with_reducible rfl
            try simp only [List.getElem_toArray, List.getElem_cons_zero, List.getElem_cons_succ, Act.put, List.setIfInBounds_toArray, List.set_cons_zero, List.set_cons_succ]
            refine wpAnyH_take (i := 22) (v := ?_) rfl (by kernel_rfl) (by kernel_rfl) (by kernel_rfl) (fun _ _ _ h => h) (Or.inl ⟨by rfl, ?_⟩) (HP0.out) ?_
            rotate_left
            · intro wS hSw
              go_simp
              try with_reducible rfl
            try simp only [List.getElem_toArray, List.getElem_cons_zero, List.getElem_cons_succ, Act.put, List.setIfInBounds_toArray, List.set_cons_zero, List.set_cons_succ]
            refine wpAnyH_ready (rs := [16, 23]) (by kernel_rfl) (by simp) ?_
            refine AllReadyH.cons rfl (fun K hK => ?_) (AllReadyH.cons rfl (fun K hK => ?_) AllReadyH.nil)
            · go_simp
              refine hK.out _ _ HP0.out (fun _ => ?_)
              clear hK K
              try simp only [List.getElem_toArray, List.getElem_cons_zero, List.getElem_cons_succ, Act.put, List.setIfInBounds_toArray, List.set_cons_zero, List.set_cons_succ]
              refine wpAnyH_ready (rs := [23]) (by kernel_rfl) (by simp) ?_
              refine AllReadyH.cons rfl (fun K hK => ?_) AllReadyH.nil
              go_simp
              refine hK.out _ _ HP0.out (fun _ => ?_)
              clear hK K
              try simp only [List.getElem_toArray, List.getElem_cons_zero, List.getElem_cons_succ, Act.put, List.setIfInBounds_toArray, List.set_cons_zero, List.set_cons_succ]
              refine wpAnyH_take (i := 24) (v := ?_) rfl (by kernel_rfl) (by kernel_rfl) (by kernel_rfl) (fun _ _ _ h => h) (Or.inl ⟨by rfl, ?_⟩) HP0.out ?_
              rotate_left
              · intro wS hSw
                go_simp
                try with_reducible rfl
              try simp only [List.getElem_toArray, List.getElem_cons_zero, List.getElem_cons_succ, Act.put, List.setIfInBounds_toArray, List.set_cons_zero, List.set_cons_succ]
              refine wpAnyH_ready (rs := [25]) (by kernel_rfl) (by simp) ?_
              refine AllReadyH.cons rfl (fun K hK => ?_) AllReadyH.nil
              go_simp
              refine hK.out _ _ HP1.out (fun _ => ?_)
              clear hK K
              try simp only [List.getElem_toArray, List.getElem_cons_zero, List.getElem_cons_succ, Act.put, List.setIfInBounds_toArray, List.set_cons_zero, List.set_cons_succ]
              refine wpAnyH_take (i := 26) (v := ?_) rfl (by kernel_rfl) (by kernel_rfl) (by kernel_rfl) (fun _ _ _ h => h) (Or.inl ⟨by rfl, ?_⟩) HP1.out ?_
              rotate_left
              · intro wS hSw
                go_simp
                try with_reducible rfl
              try simp only [List.getElem_toArray, List.getElem_cons_zero, List.getElem_cons_succ, Act.put, List.setIfInBounds_toArray, List.set_cons_zero, List.set_cons_succ]
              refine wpAnyH_ready (rs := [27]) (by kernel_rfl) (by simp) ?_
              refine AllReadyH.cons rfl (fun K hK => ?_) AllReadyH.nil
              go_simp
              refine hK.out _ _ HP2.out (fun _ => ?_)
              clear hK K
              try simp only [List.getElem_toArray, List.getElem_cons_zero, List.getElem_cons_succ, Act.put, List.setIfInBounds_toArray, List.set_cons_zero, List.set_cons_succ]
              refine wpAnyH_done (by kernel_rfl) ?_ _
              first | go_meet | (go_wp2_with fail; go_meet)
              exact ⟨rfl, rfl⟩
            · go_simp
              refine hK.out _ _ HP0.out (fun _ => ?_)
              clear hK K
              try simp only [List.getElem_toArray, List.getElem_cons_zero, List.getElem_cons_succ, Act.put, List.setIfInBounds_toArray, List.set_cons_zero, List.set_cons_succ]
              refine wpAnyH_ready (rs := [16]) (by kernel_rfl) (by simp) ?_
              refine AllReadyH.cons rfl (fun K hK => ?_) AllReadyH.nil
              go_simp
              refine hK.out _ _ HP0.out (fun _ => ?_)
              clear hK K
              try simp only [List.getElem_toArray, List.getElem_cons_zero, List.getElem_cons_succ, Act.put, List.setIfInBounds_toArray, List.set_cons_zero, List.set_cons_succ]
              refine wpAnyH_take (i := 24) (v := ?_) rfl (by kernel_rfl) (by kernel_rfl) (by kernel_rfl) (fun _ _ _ h => h) (Or.inl ⟨by rfl, ?_⟩) HP0.out ?_
              rotate_left
              · intro wS hSw
                go_simp
                try with_reducible rfl
              try simp only [List.getElem_toArray, List.getElem_cons_zero, List.getElem_cons_succ, Act.put, List.setIfInBounds_toArray, List.set_cons_zero, List.set_cons_succ]
              refine wpAnyH_ready (rs := [25]) (by kernel_rfl) (by simp) ?_
              refine AllReadyH.cons rfl (fun K hK => ?_) AllReadyH.nil
              go_simp
              refine hK.out _ _ HP1.out (fun _ => ?_)
              clear hK K
              try simp only [List.getElem_toArray, List.getElem_cons_zero, List.getElem_cons_succ, Act.put, List.setIfInBounds_toArray, List.set_cons_zero, List.set_cons_succ]
              refine wpAnyH_take (i := 26) (v := ?_) rfl (by kernel_rfl) (by kernel_rfl) (by kernel_rfl) (fun _ _ _ h => h) (Or.inl ⟨by rfl, ?_⟩) HP1.out ?_
              rotate_left
              · intro wS hSw
                go_simp
                try with_reducible rfl
              try simp only [List.getElem_toArray, List.getElem_cons_zero, List.getElem_cons_succ, Act.put, List.setIfInBounds_toArray, List.set_cons_zero, List.set_cons_succ]
              refine wpAnyH_ready (rs := [27]) (by kernel_rfl) (by simp) ?_
              refine AllReadyH.cons rfl (fun K hK => ?_) AllReadyH.nil
              go_simp
              refine hK.out _ _ HP2.out (fun _ => ?_)
              clear hK K
              try simp only [List.getElem_toArray, List.getElem_cons_zero, List.getElem_cons_succ, Act.put, List.setIfInBounds_toArray, List.set_cons_zero, List.set_cons_succ]
              refine wpAnyH_done (by kernel_rfl) ?_ _
              first | go_meet | (go_wp2_with fail; go_meet)
              exact ⟨rfl, rfl⟩
          case rest =>
            obtain ⟨rfl, rfl⟩ := hcut
            have HCL := Lib.hid (matClean HK2.out r k hrl (by omega) hn hW (by rw [HSB.out]; exact HQ3.out))
            rw [HSB.out] at HCL
            clear cq1 fq1 cqd crd frd HP0 HP1 HP2 HQ3 HSB
            generalize (w2.drew.setCell ⟨gr, r, none⟩ (.slice Aq nq kq)).setCell ⟨gr, q, none⟩ (.slice Ar nr kr) = w4 at *
            go_wp2_with fail
            refine HCL.out.mono ?_
            rintro e w5 ⟨rfl, L5, hK5, hB5, hS5⟩
            have HK5 := Lib.hid hK5
            have HS5 := Lib.hid (HS2.out.trans hS5)
            have HE5 : Hid (Lin.Elm n W T0 (k + 1) (r + 1) (Lin.ent (bsL L5))) := Lib.hid (by rw [hB5]; exact HCE.out)
            clear hK5 hB5 hS5 HS2 HCE HCL HK2
            go_wp2
            exact ⟨⟨k + 1, r + 1, L5, by go_num, by go_num, hlt, hrl, HK5, HE5, HS5⟩, by simp [intOf]; omega⟩
    · obtain rfl : k = cols := by omega
      clear hlt
      go_wp2
      go_ret
      exact ⟨r, Lk, rfl, hI.out, hE.out, hS.out⟩
end Cib
