/- Order: Union at any list of spans. -/
import Derived.Test.YtijinfmokbaahaaUniS
import Derived.Test.YtijinfmokbaahaaUniE
import Derived.Laws.OwnMore
set_option linter.unusedVariables false
set_option linter.unusedSimpArgs false
set_option maxRecDepth 20000
namespace Cib
open Go Go.RowKit Go.Proofs
section
variable {w w' : World} {B n c g : Nat} {A : Option Addr} {L O : List Sn} {s u : Sn} {t : ByteArray}
theorem cells_set (q : Nat) (hq : O.length = q) : (cellsL (O ++ [u])).set (q * 2 + 1) (.string t) = cellsL (O ++ [(u.1, t)]) := by
  rw [cellsL_app, cellsL_app, List.set_append_right _ _ (by rw [cellsL_len]; omega), cellsL_len, hq, show q * 2 + 1 - q * 2 = 1 by omega]
  rfl
theorem Own.put {q : Nat} (h : Own w B (some ⟨g, 0, none⟩) n c (O ++ [u])) (hq : O.length = q) (t : ByteArray) : Own (w.setCell ⟨g, q * 2 + 1, none⟩ (.string t)) B (some ⟨g, 0, none⟩) n c (O ++ [(u.1, t)]) := by
  have := (World.ownsRow.stored h (q * 2 + 1) (.string t)).1
  rw [cells_set q hq] at this
  exact this
theorem Own.last {q : Nat} (h : Own w B A n c (O ++ [u])) (hq : O.length = q) : ∃ g, A = some ⟨g, 0, none⟩ ∧ B ≤ g ∧ n = q + 1 ∧ w.cell? ⟨g, q * 2, none⟩ = some (.string u.1) ∧ w.cell? ⟨g, q * 2 + 1, none⟩ = some (.string u.2) ∧ ∀ i, w.frozen? ⟨g, i, none⟩ = false := by
  have hl := h.len
  rw [List.length_append] at hl
  simp at hl
  rcases h.cases with ⟨_, h0, _⟩ | ⟨g, rfl, hg, _, _, hL⟩
  · omega
  · have hlt : q < (O ++ [u]).length := by simp; omega
    have e : (O ++ [u])[q] = u := by subst hq; simp
    have := hL.get hlt
    rw [e] at this
    exact ⟨g, rfl, hg, by omega, this.1, this.2, hL.fr⟩
end
/-- Joined to the last one, or put behind it. -/
def Joins (O : List Sn) (s : Sn) : Bool → Prop
  | true => ∃ O' u, O = O' ++ [u] ∧ (Ord.no u.2 = true ∨ Ord.lt u.2 s.1 = false)
  | false => O = [] ∨ ∃ O' u, O = O' ++ [u] ∧ Ord.no u.2 = false ∧ Ord.lt u.2 s.1 = true
/-- In the loop of Union. -/
structure UnB (w3 : World) (A : Option Addr) (k c : Nat) (O : List Sn) (q : Nat) (s : Sn) (wx : World) : Prop where
  own : Own wx w3.heap.size A k c O
  below : Below w3.heap.size w3 wx
  box : Blk wx q 26 #[.string s.1, .string s.2]
theorem UnB.drew {w3 wx : World} {A k c O q s} (h : UnB w3 A k c O q s wx) : UnB w3 A k c O q s wx.drew := ⟨h.own, below_drewN h.below 1, h.box⟩
theorem UnB.c0 {w3 wx : World} {A k c O q s} (h : UnB w3 A k c O q s wx) : wx.cell? ⟨q, 0, none⟩ = some (.string s.1) := h.box.cell 0
theorem UnB.c1 {w3 wx : World} {A k c O q s} (h : UnB w3 A k c O q s wx) : wx.cell? ⟨q, 1, none⟩ = some (.string s.2) := h.box.cell 1
theorem UnB.lst {w3 wx : World} {g k c O q s u p} (h : UnB w3 (some ⟨g, 0, none⟩) k c (O ++ [u]) q s wx) (hp : O.length = p) : wx.cell? ⟨g, p * 2 + 1, none⟩ = some (.string u.2) := by
  obtain ⟨g', e, _, _, _, h1, _⟩ := h.own.last hp
  injection e with e
  injection e with e
  subst e
  exact h1
theorem leq_lt (a b : ByteArray) : (Op.bytesLess a.toList b.toList || a.toList == b.toList) = !Ord.lt b a := by
  have h1 : Op.bytesLess a.toList b.toList = Ord.lt a b := rfl
  have h2 : (a.toList == b.toList) = Ord.eq a b := rfl
  rw [h1, h2]
  cases h : Ord.lt b a
  · rcases Ord.le_iff.1 h with h | h
    · rw [h]; rfl
    · rw [(Ord.eq_iff a b).2 h]; simp
  · rw [Ord.lt_asymm h, Ord.eq_false.2 (fun e => by subst e; rw [Ord.lt_irr] at h; cases h)]; rfl
set_option maxHeartbeats 4000000 in
theorem unionAl (w : World) (B n c : Nat) (A : Option Addr) (L : List Sn) (hL : L.length = n) (h : Rd w B A (cellsL L)) (hB : B ≤ w.heap.size) (hn : n ≤ 45) (hA : A = none → n = 0) :
    Calls Try.prog 21 #[.slice A n c] w fun e w' =>
      ∃ (A' : Option Addr) (n' c' : Nat), e = .returned (.slice A' n' c') ∧ ∃ O : List Sn, Own w' w.heap.size A' n' c' O ∧ Ord.Canon O ∧ (∀ k, Ord.cov O k = Ord.cov L k) ∧ n' ≤ n ∧ Below w.heap.size w w' := by
  have HC := Lib.hid (cloneN A n c B L hL (by omega) w h hB hA)
  have HDL : Hid (∀ A1 c1 (w1 : World), Al w1 w.heap.size A1 n c1 L → w.heap.size ≤ w1.heap.size → _) := Lib.hid (fun A1 c1 w1 h1 hz => delAl A1 n c1 w.heap.size L w1 h1 (by omega) hz)
  have HSO : Hid (∀ A1 m c1 (w1 : World), Al w1 w.heap.size A1 m c1 (ful L) → m ≤ n → _) := Lib.hid (fun A1 m c1 w1 h1 hm => sortAl A1 m c1 w.heap.size (ful L) w1 h1 (by omega))
  obtain ⟨i0, hi, hz0, hz1', hz2⟩ := info_parts spanInfo3
  have HI := Lib.hid hi
  clear hi h hL hA
  unfold cmpV at *
  go_enter Try.func21, Try.ntmps21
  go_wp2_with (first | (go_at_call 31; go_loud (refine HC.out.mono ?_; rintro e w1 ⟨A1, c1, rfl, ho1, hb1⟩)) | (go_at_call 30; refine (HDL.out A1 c1 w1 ho1.al hb1.size).mono ?_; rintro e w2 ⟨m, rfl, hm, ha2, hb2⟩))
  go_wp2_with (go_at_call 32; refine (HSO.out A1 m c1 _ ha2 hm).mono ?_; rintro e w3 ⟨rfl, M, hperm, hsrt, ha3, hb3⟩)
  have HB3 := Lib.hid (hb1.trans ((hb2.trans hb3).mono (Nat.le_refl _)))
  have HA3 := Lib.hid ha3
  have HPM := Lib.hid (And.intro hperm hsrt)
  have HBM := Lib.hid (And.intro hB hn)
  clear ha2 ha3 hb1 hb2 hb3 ho1 HC HDL HSO hperm hsrt hB
  go_loopw [4, 17] (fun x4 x17 wx => ∃ (i k c2 : Nat) (A2 : Option Addr) (O : List Sn), x17 = .int .i64 i ∧ x4 = .slice A2 k c2 ∧ i ≤ m ∧ Hid (Ord.Mrg (M.take i) O) ∧ Hid (Own wx w3.heap.size A2 k c2 O) ∧ Hid (Below w3.heap.size w3 wx)) (fun _ x17 _ => m - (Go.RowKit.intOf x17).toNat)
  case atStart => exact ⟨0, 0, 0, none, [], rfl, rfl, Nat.zero_le _, Lib.hid Ord.Mrg.nil, Lib.hid Own.nil, Lib.hid (Below.refl _ _)⟩
  case round =>
    obtain ⟨i, k, c2, A2, O, rfl, rfl, him, HM, HO, HB⟩ := hrel
    by_cases hlt : i < m
    · have hMl := HA3.out.1
      have hiM : i < M.length := by omega
      rcases HA3.out.2 with ⟨_, h0, _⟩ | ⟨g, rfl, hg, hmc, hcm, hL3⟩
      · omega
      have hg3 : g < w3.heap.size := hL3.lt
      have hLr := hL3.below HB.out hg3
      obtain ⟨hc1, hc2⟩ := hLr.get hiM
      obtain ⟨x, hx⟩ : ∃ x, M[i] = x := ⟨_, rfl⟩
      have HXE := Lib.hid hx
      rw [hx] at hc1 hc2
      obtain ⟨f, t⟩ := x
      dsimp only at hc1 hc2
      have HUB : Hid (UnB w3 A2 k c2 O wr.heap.size (f, t) (wr.alloc (.cells #[.string f, .string t] 26))) := Lib.hid ⟨HO.out.via ((Below.refl _ _).alloc (Nat.le_refl _) _), HB.out.alloc HB.out.size _, Blk.new _ _ _⟩
      clear hx hL3 hLr hMl hcm
      go_upto_region 8 with fail
      obtain ⟨wB, hwB⟩ : ∃ wB, wr.alloc (.cells #[.string f, .string t] 26) = wB := ⟨_, rfl⟩
      rw [hwB] at HUB ⊢
      generalize wr.heap.size = q at HUB ⊢
      clear hwB hc1 hc2
      go_cut [44] from 23 to 63 (fun x44 wx => ∃ r : Bool, x44 = .bool r ∧ Joins O (f, t) r ∧ Hid (UnB w3 A2 k c2 O q (f, t) wx))
      case first =>
        rcases List.eq_nil_or_concat O with rfl | ⟨O', u, hOu⟩
        · obtain rfl : k = 0 := HO.out.len.symm
          rw [show ((0 : Nat) : Int) = 0 from rfl]
          go_wp2_with fail
          refine wp_region_held_drew (S := (fun _ => True)) (by kernel_rfl) trivial (fun _ => ?_)
          refine wpAnyH_take (i := 0) (v := ?_) rfl (by kernel_rfl) (by kernel_rfl) (by kernel_rfl) (fun _ _ _ h => h) (Or.inl ⟨by rfl, ?_⟩) trivial ?_
          rotate_left
          · intro wS hSw
            go_simp
            try with_reducible rfl
          try simp only [List.getElem_toArray, List.getElem_cons_zero, List.getElem_cons_succ, Act.put, List.setIfInBounds_toArray, List.set_cons_zero, List.set_cons_succ]
          refine wpAnyH_take (i := 1) (v := ?_) rfl (by kernel_rfl) (by kernel_rfl) (by kernel_rfl) (fun _ _ _ h => h) (Or.inl ⟨by rfl, ?_⟩) trivial ?_
          rotate_left
          · intro wS hSw
            go_simp
            try with_reducible rfl
          try simp only [List.getElem_toArray, List.getElem_cons_zero, List.getElem_cons_succ, Act.put, List.setIfInBounds_toArray, List.set_cons_zero, List.set_cons_succ]
          refine wpAnyH_take (i := 2) (v := ?_) rfl (by kernel_rfl) (by kernel_rfl) (by kernel_rfl) (fun _ _ _ h => h) (Or.inl ⟨by rfl, ?_⟩) trivial ?_
          rotate_left
          · intro wS hSw
            go_simp
            try with_reducible rfl
          try simp only [List.getElem_toArray, List.getElem_cons_zero, List.getElem_cons_succ, Act.put, List.setIfInBounds_toArray, List.set_cons_zero, List.set_cons_succ]
          refine wpAnyH_take (i := 3) (v := undef) rfl (by kernel_rfl) (by kernel_rfl) (by kernel_rfl) (fun _ _ _ h => h) (Or.inr ⟨by rfl, rfl⟩) trivial ?_
          try simp only [List.getElem_toArray, List.getElem_cons_zero, List.getElem_cons_succ, Act.put, List.setIfInBounds_toArray, List.set_cons_zero, List.set_cons_succ]
          refine wpAnyH_take (i := 4) (v := undef) rfl (by kernel_rfl) (by kernel_rfl) (by kernel_rfl) (fun _ _ _ h => h) (Or.inr ⟨by rfl, rfl⟩) trivial ?_
          try simp only [List.getElem_toArray, List.getElem_cons_zero, List.getElem_cons_succ, Act.put, List.setIfInBounds_toArray, List.set_cons_zero, List.set_cons_succ]
          refine wpAnyH_take (i := 5) (v := undef) rfl (by kernel_rfl) (by kernel_rfl) (by kernel_rfl) (fun _ _ _ h => h) (Or.inr ⟨by rfl, rfl⟩) trivial ?_
          try simp only [List.getElem_toArray, List.getElem_cons_zero, List.getElem_cons_succ, Act.put, List.setIfInBounds_toArray, List.set_cons_zero, List.set_cons_succ]
          refine wpAnyH_take (i := 6) (v := undef) rfl (by kernel_rfl) (by kernel_rfl) (by kernel_rfl) (fun _ _ _ h => h) (Or.inr ⟨by rfl, rfl⟩) trivial ?_
          try simp only [List.getElem_toArray, List.getElem_cons_zero, List.getElem_cons_succ, Act.put, List.setIfInBounds_toArray, List.set_cons_zero, List.set_cons_succ]
          refine wpAnyH_take (i := 7) (v := undef) rfl (by kernel_rfl) (by kernel_rfl) (by kernel_rfl) (fun _ _ _ h => h) (Or.inr ⟨by rfl, rfl⟩) trivial ?_
          try simp only [List.getElem_toArray, List.getElem_cons_zero, List.getElem_cons_succ, Act.put, List.setIfInBounds_toArray, List.set_cons_zero, List.set_cons_succ]
          refine wpAnyH_take (i := 8) (v := undef) rfl (by kernel_rfl) (by kernel_rfl) (by kernel_rfl) (fun _ _ _ h => h) (Or.inr ⟨by rfl, rfl⟩) trivial ?_
          try simp only [List.getElem_toArray, List.getElem_cons_zero, List.getElem_cons_succ, Act.put, List.setIfInBounds_toArray, List.set_cons_zero, List.set_cons_succ]
          refine wpAnyH_take (i := 9) (v := undef) rfl (by kernel_rfl) (by kernel_rfl) (by kernel_rfl) (fun _ _ _ h => h) (Or.inr ⟨by rfl, rfl⟩) trivial ?_
          try simp only [List.getElem_toArray, List.getElem_cons_zero, List.getElem_cons_succ, Act.put, List.setIfInBounds_toArray, List.set_cons_zero, List.set_cons_succ]
          refine wpAnyH_take (i := 10) (v := undef) rfl (by kernel_rfl) (by kernel_rfl) (by kernel_rfl) (fun _ _ _ h => h) (Or.inr ⟨by rfl, rfl⟩) trivial ?_
          try simp only [List.getElem_toArray, List.getElem_cons_zero, List.getElem_cons_succ, Act.put, List.setIfInBounds_toArray, List.set_cons_zero, List.set_cons_succ]
          refine wpAnyH_take (i := 11) (v := undef) rfl (by kernel_rfl) (by kernel_rfl) (by kernel_rfl) (fun _ _ _ h => h) (Or.inr ⟨by rfl, rfl⟩) trivial ?_
          try simp only [List.getElem_toArray, List.getElem_cons_zero, List.getElem_cons_succ, Act.put, List.setIfInBounds_toArray, List.set_cons_zero, List.set_cons_succ]
          refine wpAnyH_take (i := 12) (v := undef) rfl (by kernel_rfl) (by kernel_rfl) (by kernel_rfl) (fun _ _ _ h => h) (Or.inr ⟨by rfl, rfl⟩) trivial ?_
          try simp only [List.getElem_toArray, List.getElem_cons_zero, List.getElem_cons_succ, Act.put, List.setIfInBounds_toArray, List.set_cons_zero, List.set_cons_succ]
          refine wpAnyH_take (i := 13) (v := undef) rfl (by kernel_rfl) (by kernel_rfl) (by kernel_rfl) (fun _ _ _ h => h) (Or.inr ⟨by rfl, rfl⟩) trivial ?_
          try simp only [List.getElem_toArray, List.getElem_cons_zero, List.getElem_cons_succ, Act.put, List.setIfInBounds_toArray, List.set_cons_zero, List.set_cons_succ]
          refine wpAnyH_take (i := 14) (v := undef) rfl (by kernel_rfl) (by kernel_rfl) (by kernel_rfl) (fun _ _ _ h => h) (Or.inr ⟨by rfl, rfl⟩) trivial ?_
          try simp only [List.getElem_toArray, List.getElem_cons_zero, List.getElem_cons_succ, Act.put, List.setIfInBounds_toArray, List.set_cons_zero, List.set_cons_succ]
          refine wpAnyH_take (i := 15) (v := undef) rfl (by kernel_rfl) (by kernel_rfl) (by kernel_rfl) (fun _ _ _ h => h) (Or.inr ⟨by rfl, rfl⟩) trivial ?_
          try simp only [List.getElem_toArray, List.getElem_cons_zero, List.getElem_cons_succ, Act.put, List.setIfInBounds_toArray, List.set_cons_zero, List.set_cons_succ]
          refine wpAnyH_take (i := 16) (v := undef) rfl (by kernel_rfl) (by kernel_rfl) (by kernel_rfl) (fun _ _ _ h => h) (Or.inr ⟨by rfl, rfl⟩) trivial ?_
          try simp only [List.getElem_toArray, List.getElem_cons_zero, List.getElem_cons_succ, Act.put, List.setIfInBounds_toArray, List.set_cons_zero, List.set_cons_succ]
          refine wpAnyH_take (i := 17) (v := undef) rfl (by kernel_rfl) (by kernel_rfl) (by kernel_rfl) (fun _ _ _ h => h) (Or.inr ⟨by rfl, rfl⟩) trivial ?_
          try simp only [List.getElem_toArray, List.getElem_cons_zero, List.getElem_cons_succ, Act.put, List.setIfInBounds_toArray, List.set_cons_zero, List.set_cons_succ]
          refine wpAnyH_take (i := 18) (v := undef) rfl (by kernel_rfl) (by kernel_rfl) (by kernel_rfl) (fun _ _ _ h => h) (Or.inr ⟨by rfl, rfl⟩) trivial ?_
          try simp only [List.getElem_toArray, List.getElem_cons_zero, List.getElem_cons_succ, Act.put, List.setIfInBounds_toArray, List.set_cons_zero, List.set_cons_succ]
          refine wpAnyH_take (i := 19) (v := undef) rfl (by kernel_rfl) (by kernel_rfl) (by kernel_rfl) (fun _ _ _ h => h) (Or.inr ⟨by rfl, rfl⟩) trivial ?_
          try simp only [List.getElem_toArray, List.getElem_cons_zero, List.getElem_cons_succ, Act.put, List.setIfInBounds_toArray, List.set_cons_zero, List.set_cons_succ]
          refine wpAnyH_take (i := 20) (v := undef) rfl (by kernel_rfl) (by kernel_rfl) (by kernel_rfl) (fun _ _ _ h => h) (Or.inr ⟨by rfl, rfl⟩) trivial ?_
          try simp only [List.getElem_toArray, List.getElem_cons_zero, List.getElem_cons_succ, Act.put, List.setIfInBounds_toArray, List.set_cons_zero, List.set_cons_succ]
          refine wpAnyH_take (i := 21) (v := ?_) rfl (by kernel_rfl) (by kernel_rfl) (by kernel_rfl) (fun _ _ _ h => h) (Or.inl ⟨by rfl, ?_⟩) trivial ?_
          rotate_left
          · intro wS hSw
            go_simp
            try with_reducible rfl
          try simp only [List.getElem_toArray, List.getElem_cons_zero, List.getElem_cons_succ, Act.put, List.setIfInBounds_toArray, List.set_cons_zero, List.set_cons_succ]
          refine wpAnyH_done (by kernel_rfl) ?_ _
          try go_wp2_with fail
          go_meet
          exact ⟨false, rfl, .inl rfl, Lib.hid HUB.out.drew⟩
        · obtain rfl : O = O' ++ [u] := by rw [hOu]; simp
          clear hOu
          obtain ⟨p, hp⟩ : ∃ p, O'.length = p := ⟨_, rfl⟩
          obtain ⟨g2, rfl, hg2, hkp, _, _, _⟩ := HO.out.last hp
          have hk1 : (k : Int) - 1 = (p : Int) := by omega
          have hpk : (p : Int) < (k : Int) := by omega
          have hk0 : (0 : Int) < (k : Int) := by omega
          have hkd : decide (0 < k) = true := decide_eq_true (by omega)
          have hp45 : p ≤ 45 := by
            have h1 := HM.out.len
            rw [List.length_take, List.length_append] at h1
            simp at h1
            omega
          have hwp : IntKind.i64.wrap (p : Int) = (p : Int) := by rw [IntKind.wrap_i64]; omega
          have HPP := Lib.hid hp
          clear hp hkp
          obtain ⟨uf, ut⟩ := u
          cases hno : Ord.no ut
          · have hno' : ut.toList.isEmpty = false := hno
            have HNO := Lib.hid hno
            clear hno
            have HLQ := Lib.hid (leq_lt f ut)
            go_wp2_with fail
            refine wp_region_held_drew (S := (fun wQq => UnB w3 (some ⟨g2, 0, none⟩) k c2 (O' ++ [(uf, ut)]) q (f, t) wQq)) (by kernel_rfl) (HUB.out.drew) (fun _ => ?_)
            refine wpAnyH_take (i := 0) (v := ?_) rfl (by kernel_rfl) (by kernel_rfl) (by kernel_rfl) (fun _ _ _ h => h) (Or.inl ⟨by rfl, ?_⟩) (HUB.out.drew) ?_
            rotate_left
            · intro wS hSw
              go_simp
              try with_reducible rfl
            try simp only [List.getElem_toArray, List.getElem_cons_zero, List.getElem_cons_succ, Act.put, List.setIfInBounds_toArray, List.set_cons_zero, List.set_cons_succ]
            refine wpAnyH_take (i := 1) (v := ?_) rfl (by kernel_rfl) (by kernel_rfl) (by kernel_rfl) (fun _ _ _ h => h) (Or.inl ⟨by rfl, ?_⟩) (HUB.out.drew) ?_
            rotate_left
            · intro wS hSw
              go_simp
              try with_reducible rfl
            try simp only [List.getElem_toArray, List.getElem_cons_zero, List.getElem_cons_succ, Act.put, List.setIfInBounds_toArray, List.set_cons_zero, List.set_cons_succ]
            refine wpAnyH_take (i := 2) (v := ?_) rfl (by kernel_rfl) (by kernel_rfl) (by kernel_rfl) (fun _ _ _ h => h) (Or.inl ⟨by rfl, ?_⟩) (HUB.out.drew) ?_
            rotate_left
            · intro wS hSw
              go_simp
              try with_reducible rfl
            try simp only [List.getElem_toArray, List.getElem_cons_zero, List.getElem_cons_succ, Act.put, List.setIfInBounds_toArray, List.set_cons_zero, List.set_cons_succ]
            refine wpAnyH_take (i := 3) (v := ?_) rfl (by kernel_rfl) (by kernel_rfl) (by kernel_rfl) (fun _ _ _ h => h) (Or.inl ⟨by rfl, ?_⟩) (HUB.out.drew) ?_
            rotate_left
            · intro wS hSw
              go_simp
              try with_reducible rfl
            try simp only [List.getElem_toArray, List.getElem_cons_zero, List.getElem_cons_succ, Act.put, List.setIfInBounds_toArray, List.set_cons_zero, List.set_cons_succ]
            refine wpAnyH_take (i := 4) (v := ?_) rfl (by kernel_rfl) (by kernel_rfl) (by kernel_rfl) (fun _ _ _ h => h) (Or.inl ⟨by rfl, ?_⟩) (HUB.out.drew) ?_
            rotate_left
            · intro wS hSw
              go_simp
              try with_reducible rfl
            try simp only [List.getElem_toArray, List.getElem_cons_zero, List.getElem_cons_succ, Act.put, List.setIfInBounds_toArray, List.set_cons_zero, List.set_cons_succ]
            refine wpAnyH_take (i := 5) (v := ?_) rfl (by kernel_rfl) (by kernel_rfl) (by kernel_rfl) (fun _ _ _ h => h) (Or.inl ⟨by rfl, ?_⟩) (HUB.out.drew) ?_
            rotate_left
            · intro wS hSw
              go_simp
              try with_reducible rfl
            try simp only [List.getElem_toArray, List.getElem_cons_zero, List.getElem_cons_succ, Act.put, List.setIfInBounds_toArray, List.set_cons_zero, List.set_cons_succ]
            refine wpAnyH_take (i := 6) (v := ?_) rfl (by kernel_rfl) (by kernel_rfl) (by kernel_rfl) (fun _ _ _ h => h) (Or.inl ⟨by rfl, ?_⟩) (HUB.out.drew) ?_
            rotate_left
            · intro wS hSw
              go_simp
              try with_reducible rfl
            try simp only [List.getElem_toArray, List.getElem_cons_zero, List.getElem_cons_succ, Act.put, List.setIfInBounds_toArray, List.set_cons_zero, List.set_cons_succ]
            refine wpAnyH_take (i := 7) (v := ?_) rfl (by kernel_rfl) (by kernel_rfl) (by kernel_rfl) (fun _ _ _ h => h) (Or.inl ⟨by rfl, ?_⟩) (HUB.out.drew) ?_
            rotate_left
            · intro wS hSw
              go_simp
              try with_reducible rfl
            try simp only [List.getElem_toArray, List.getElem_cons_zero, List.getElem_cons_succ, Act.put, List.setIfInBounds_toArray, List.set_cons_zero, List.set_cons_succ]
            refine wpAnyH_take (i := 8) (v := ?_) rfl (by kernel_rfl) (by kernel_rfl) (by kernel_rfl) (fun _ _ _ h => h) (Or.inl ⟨by rfl, ?_⟩) (HUB.out.drew) ?_
            rotate_left
            · intro wS hSw
              have hcv := hSw.lst HPP.out
              go_simp
              try with_reducible rfl
            try simp only [List.getElem_toArray, List.getElem_cons_zero, List.getElem_cons_succ, Act.put, List.setIfInBounds_toArray, List.set_cons_zero, List.set_cons_succ]
            refine wpAnyH_take (i := 9) (v := ?_) rfl (by kernel_rfl) (by kernel_rfl) (by kernel_rfl) (fun _ _ _ h => h) (Or.inl ⟨by rfl, ?_⟩) (HUB.out.drew) ?_
            rotate_left
            · intro wS hSw
              go_simp
              try with_reducible rfl
            try simp only [List.getElem_toArray, List.getElem_cons_zero, List.getElem_cons_succ, Act.put, List.setIfInBounds_toArray, List.set_cons_zero, List.set_cons_succ]
            refine wpAnyH_take (i := 10) (v := ?_) rfl (by kernel_rfl) (by kernel_rfl) (by kernel_rfl) (fun _ _ _ h => h) (Or.inl ⟨by rfl, ?_⟩) (HUB.out.drew) ?_
            rotate_left
            · intro wS hSw
              go_simp
              try with_reducible rfl
            try simp only [List.getElem_toArray, List.getElem_cons_zero, List.getElem_cons_succ, Act.put, List.setIfInBounds_toArray, List.set_cons_zero, List.set_cons_succ]
            refine wpAnyH_take (i := 11) (v := ?_) rfl (by kernel_rfl) (by kernel_rfl) (by kernel_rfl) (fun _ _ _ h => h) (Or.inl ⟨by rfl, ?_⟩) (HUB.out.drew) ?_
            rotate_left
            · intro wS hSw
              go_simp
              try with_reducible rfl
            try simp only [List.getElem_toArray, List.getElem_cons_zero, List.getElem_cons_succ, Act.put, List.setIfInBounds_toArray, List.set_cons_zero, List.set_cons_succ]
            refine wpAnyH_take (i := 13) (v := ?_) rfl (by kernel_rfl) (by kernel_rfl) (by kernel_rfl) (fun _ _ _ h => h) (Or.inl ⟨by rfl, ?_⟩) (HUB.out.drew) ?_
            rotate_left
            · intro wS hSw
              go_simp
              try with_reducible rfl
            try simp only [List.getElem_toArray, List.getElem_cons_zero, List.getElem_cons_succ, Act.put, List.setIfInBounds_toArray, List.set_cons_zero, List.set_cons_succ]
            refine wpAnyH_take (i := 14) (v := ?_) rfl (by kernel_rfl) (by kernel_rfl) (by kernel_rfl) (fun _ _ _ h => h) (Or.inl ⟨by rfl, ?_⟩) (HUB.out.drew) ?_
            rotate_left
            · intro wS hSw
              go_simp
              try with_reducible rfl
            try simp only [List.getElem_toArray, List.getElem_cons_zero, List.getElem_cons_succ, Act.put, List.setIfInBounds_toArray, List.set_cons_zero, List.set_cons_succ]
            refine wpAnyH_take (i := 15) (v := ?_) rfl (by kernel_rfl) (by kernel_rfl) (by kernel_rfl) (fun _ _ _ h => h) (Or.inl ⟨by rfl, ?_⟩) (HUB.out.drew) ?_
            rotate_left
            · intro wS hSw
              go_simp
              try with_reducible rfl
            try simp only [List.getElem_toArray, List.getElem_cons_zero, List.getElem_cons_succ, Act.put, List.setIfInBounds_toArray, List.set_cons_zero, List.set_cons_succ]
            refine wpAnyH_take (i := 16) (v := ?_) rfl (by kernel_rfl) (by kernel_rfl) (by kernel_rfl) (fun _ _ _ h => h) (Or.inl ⟨by rfl, ?_⟩) (HUB.out.drew) ?_
            rotate_left
            · intro wS hSw
              go_simp
              try with_reducible rfl
            try simp only [List.getElem_toArray, List.getElem_cons_zero, List.getElem_cons_succ, Act.put, List.setIfInBounds_toArray, List.set_cons_zero, List.set_cons_succ]
            refine wpAnyH_take (i := 17) (v := ?_) rfl (by kernel_rfl) (by kernel_rfl) (by kernel_rfl) (fun _ _ _ h => h) (Or.inl ⟨by rfl, ?_⟩) (HUB.out.drew) ?_
            rotate_left
            · intro wS hSw
              go_simp
              try with_reducible rfl
            try simp only [List.getElem_toArray, List.getElem_cons_zero, List.getElem_cons_succ, Act.put, List.setIfInBounds_toArray, List.set_cons_zero, List.set_cons_succ]
            refine wpAnyH_take (i := 12) (v := ?_) rfl (by kernel_rfl) (by kernel_rfl) (by kernel_rfl) (fun _ _ _ h => h) (Or.inl ⟨by rfl, ?_⟩) (HUB.out.drew) ?_
            rotate_left
            · intro wS hSw
              have hcv := hSw.c0
              go_simp
              try with_reducible rfl
            try simp only [List.getElem_toArray, List.getElem_cons_zero, List.getElem_cons_succ, Act.put, List.setIfInBounds_toArray, List.set_cons_zero, List.set_cons_succ]
            refine wpAnyH_take (i := 18) (v := ?_) rfl (by kernel_rfl) (by kernel_rfl) (by kernel_rfl) (fun _ _ _ h => h) (Or.inl ⟨by rfl, ?_⟩) (HUB.out.drew) ?_
            rotate_left
            · intro wS hSw
              have hcv := hSw.lst HPP.out
              go_simp
              try with_reducible rfl
            try simp only [List.getElem_toArray, List.getElem_cons_zero, List.getElem_cons_succ, Act.put, List.setIfInBounds_toArray, List.set_cons_zero, List.set_cons_succ]
            refine wpAnyH_take (i := 19) (v := ?_) rfl (by kernel_rfl) (by kernel_rfl) (by kernel_rfl) (fun _ _ _ h => h) (Or.inl ⟨by rfl, ?_⟩) (HUB.out.drew) ?_
            rotate_left
            · intro wS hSw
              go_simp
              try with_reducible rfl
            try simp only [List.getElem_toArray, List.getElem_cons_zero, List.getElem_cons_succ, Act.put, List.setIfInBounds_toArray, List.set_cons_zero, List.set_cons_succ]
            refine wpAnyH_take (i := 20) (v := ?_) rfl (by kernel_rfl) (by kernel_rfl) (by kernel_rfl) (fun _ _ _ h => h) (Or.inl ⟨by rfl, ?_⟩) (HUB.out.drew) ?_
            rotate_left
            · intro wS hSw
              go_simp
              try with_reducible rfl
            try simp only [List.getElem_toArray, List.getElem_cons_zero, List.getElem_cons_succ, Act.put, List.setIfInBounds_toArray, List.set_cons_zero, List.set_cons_succ]
            refine wpAnyH_take (i := 21) (v := ?_) rfl (by kernel_rfl) (by kernel_rfl) (by kernel_rfl) (fun _ _ _ h => h) (Or.inl ⟨by rfl, ?_⟩) (HUB.out.drew) ?_
            rotate_left
            · intro wS hSw
              go_simp
              try with_reducible rfl
            try simp only [List.getElem_toArray, List.getElem_cons_zero, List.getElem_cons_succ, Act.put, List.setIfInBounds_toArray, List.set_cons_zero, List.set_cons_succ]
            refine wpAnyH_done (by kernel_rfl) ?_ _
            try go_wp2_with fail
            go_meet
            refine ⟨_, rfl, ?_, Lib.hid HUB.out.drew⟩
            rw [HLQ.out]
            cases hl : Ord.lt ut f
            · exact ⟨O', (uf, ut), rfl, .inr hl⟩
            · exact .inr ⟨O', (uf, ut), rfl, HNO.out, hl⟩
          · have hno' : ut.toList.isEmpty = true := hno
            have HNO := Lib.hid hno
            clear hno
            go_wp2_with fail
            refine wp_region_held_drew (S := (fun wQq => UnB w3 (some ⟨g2, 0, none⟩) k c2 (O' ++ [(uf, ut)]) q (f, t) wQq)) (by kernel_rfl) (HUB.out.drew) (fun _ => ?_)
            refine wpAnyH_take (i := 0) (v := ?_) rfl (by kernel_rfl) (by kernel_rfl) (by kernel_rfl) (fun _ _ _ h => h) (Or.inl ⟨by rfl, ?_⟩) (HUB.out.drew) ?_
            rotate_left
            · intro wS hSw
              go_simp
              try with_reducible rfl
            try simp only [List.getElem_toArray, List.getElem_cons_zero, List.getElem_cons_succ, Act.put, List.setIfInBounds_toArray, List.set_cons_zero, List.set_cons_succ]
            refine wpAnyH_take (i := 1) (v := ?_) rfl (by kernel_rfl) (by kernel_rfl) (by kernel_rfl) (fun _ _ _ h => h) (Or.inl ⟨by rfl, ?_⟩) (HUB.out.drew) ?_
            rotate_left
            · intro wS hSw
              go_simp
              try with_reducible rfl
            try simp only [List.getElem_toArray, List.getElem_cons_zero, List.getElem_cons_succ, Act.put, List.setIfInBounds_toArray, List.set_cons_zero, List.set_cons_succ]
            refine wpAnyH_take (i := 2) (v := ?_) rfl (by kernel_rfl) (by kernel_rfl) (by kernel_rfl) (fun _ _ _ h => h) (Or.inl ⟨by rfl, ?_⟩) (HUB.out.drew) ?_
            rotate_left
            · intro wS hSw
              go_simp
              try with_reducible rfl
            try simp only [List.getElem_toArray, List.getElem_cons_zero, List.getElem_cons_succ, Act.put, List.setIfInBounds_toArray, List.set_cons_zero, List.set_cons_succ]
            refine wpAnyH_take (i := 3) (v := ?_) rfl (by kernel_rfl) (by kernel_rfl) (by kernel_rfl) (fun _ _ _ h => h) (Or.inl ⟨by rfl, ?_⟩) (HUB.out.drew) ?_
            rotate_left
            · intro wS hSw
              go_simp
              try with_reducible rfl
            try simp only [List.getElem_toArray, List.getElem_cons_zero, List.getElem_cons_succ, Act.put, List.setIfInBounds_toArray, List.set_cons_zero, List.set_cons_succ]
            refine wpAnyH_take (i := 4) (v := ?_) rfl (by kernel_rfl) (by kernel_rfl) (by kernel_rfl) (fun _ _ _ h => h) (Or.inl ⟨by rfl, ?_⟩) (HUB.out.drew) ?_
            rotate_left
            · intro wS hSw
              go_simp
              try with_reducible rfl
            try simp only [List.getElem_toArray, List.getElem_cons_zero, List.getElem_cons_succ, Act.put, List.setIfInBounds_toArray, List.set_cons_zero, List.set_cons_succ]
            refine wpAnyH_take (i := 5) (v := ?_) rfl (by kernel_rfl) (by kernel_rfl) (by kernel_rfl) (fun _ _ _ h => h) (Or.inl ⟨by rfl, ?_⟩) (HUB.out.drew) ?_
            rotate_left
            · intro wS hSw
              go_simp
              try with_reducible rfl
            try simp only [List.getElem_toArray, List.getElem_cons_zero, List.getElem_cons_succ, Act.put, List.setIfInBounds_toArray, List.set_cons_zero, List.set_cons_succ]
            refine wpAnyH_take (i := 6) (v := ?_) rfl (by kernel_rfl) (by kernel_rfl) (by kernel_rfl) (fun _ _ _ h => h) (Or.inl ⟨by rfl, ?_⟩) (HUB.out.drew) ?_
            rotate_left
            · intro wS hSw
              go_simp
              try with_reducible rfl
            try simp only [List.getElem_toArray, List.getElem_cons_zero, List.getElem_cons_succ, Act.put, List.setIfInBounds_toArray, List.set_cons_zero, List.set_cons_succ]
            refine wpAnyH_take (i := 7) (v := ?_) rfl (by kernel_rfl) (by kernel_rfl) (by kernel_rfl) (fun _ _ _ h => h) (Or.inl ⟨by rfl, ?_⟩) (HUB.out.drew) ?_
            rotate_left
            · intro wS hSw
              go_simp
              try with_reducible rfl
            try simp only [List.getElem_toArray, List.getElem_cons_zero, List.getElem_cons_succ, Act.put, List.setIfInBounds_toArray, List.set_cons_zero, List.set_cons_succ]
            refine wpAnyH_take (i := 8) (v := ?_) rfl (by kernel_rfl) (by kernel_rfl) (by kernel_rfl) (fun _ _ _ h => h) (Or.inl ⟨by rfl, ?_⟩) (HUB.out.drew) ?_
            rotate_left
            · intro wS hSw
              have hcv := hSw.lst HPP.out
              go_simp
              try with_reducible rfl
            try simp only [List.getElem_toArray, List.getElem_cons_zero, List.getElem_cons_succ, Act.put, List.setIfInBounds_toArray, List.set_cons_zero, List.set_cons_succ]
            refine wpAnyH_take (i := 9) (v := ?_) rfl (by kernel_rfl) (by kernel_rfl) (by kernel_rfl) (fun _ _ _ h => h) (Or.inl ⟨by rfl, ?_⟩) (HUB.out.drew) ?_
            rotate_left
            · intro wS hSw
              go_simp
              try with_reducible rfl
            try simp only [List.getElem_toArray, List.getElem_cons_zero, List.getElem_cons_succ, Act.put, List.setIfInBounds_toArray, List.set_cons_zero, List.set_cons_succ]
            refine wpAnyH_take (i := 10) (v := ?_) rfl (by kernel_rfl) (by kernel_rfl) (by kernel_rfl) (fun _ _ _ h => h) (Or.inl ⟨by rfl, ?_⟩) (HUB.out.drew) ?_
            rotate_left
            · intro wS hSw
              go_simp
              try with_reducible rfl
            try simp only [List.getElem_toArray, List.getElem_cons_zero, List.getElem_cons_succ, Act.put, List.setIfInBounds_toArray, List.set_cons_zero, List.set_cons_succ]
            refine wpAnyH_take (i := 11) (v := undef) rfl (by kernel_rfl) (by kernel_rfl) (by kernel_rfl) (fun _ _ _ h => h) (Or.inr ⟨by rfl, rfl⟩) (HUB.out.drew) ?_
            try simp only [List.getElem_toArray, List.getElem_cons_zero, List.getElem_cons_succ, Act.put, List.setIfInBounds_toArray, List.set_cons_zero, List.set_cons_succ]
            refine wpAnyH_take (i := 12) (v := undef) rfl (by kernel_rfl) (by kernel_rfl) (by kernel_rfl) (fun _ _ _ h => h) (Or.inr ⟨by rfl, rfl⟩) (HUB.out.drew) ?_
            try simp only [List.getElem_toArray, List.getElem_cons_zero, List.getElem_cons_succ, Act.put, List.setIfInBounds_toArray, List.set_cons_zero, List.set_cons_succ]
            refine wpAnyH_take (i := 13) (v := undef) rfl (by kernel_rfl) (by kernel_rfl) (by kernel_rfl) (fun _ _ _ h => h) (Or.inr ⟨by rfl, rfl⟩) (HUB.out.drew) ?_
            try simp only [List.getElem_toArray, List.getElem_cons_zero, List.getElem_cons_succ, Act.put, List.setIfInBounds_toArray, List.set_cons_zero, List.set_cons_succ]
            refine wpAnyH_take (i := 14) (v := undef) rfl (by kernel_rfl) (by kernel_rfl) (by kernel_rfl) (fun _ _ _ h => h) (Or.inr ⟨by rfl, rfl⟩) (HUB.out.drew) ?_
            try simp only [List.getElem_toArray, List.getElem_cons_zero, List.getElem_cons_succ, Act.put, List.setIfInBounds_toArray, List.set_cons_zero, List.set_cons_succ]
            refine wpAnyH_take (i := 15) (v := undef) rfl (by kernel_rfl) (by kernel_rfl) (by kernel_rfl) (fun _ _ _ h => h) (Or.inr ⟨by rfl, rfl⟩) (HUB.out.drew) ?_
            try simp only [List.getElem_toArray, List.getElem_cons_zero, List.getElem_cons_succ, Act.put, List.setIfInBounds_toArray, List.set_cons_zero, List.set_cons_succ]
            refine wpAnyH_take (i := 16) (v := undef) rfl (by kernel_rfl) (by kernel_rfl) (by kernel_rfl) (fun _ _ _ h => h) (Or.inr ⟨by rfl, rfl⟩) (HUB.out.drew) ?_
            try simp only [List.getElem_toArray, List.getElem_cons_zero, List.getElem_cons_succ, Act.put, List.setIfInBounds_toArray, List.set_cons_zero, List.set_cons_succ]
            refine wpAnyH_take (i := 17) (v := undef) rfl (by kernel_rfl) (by kernel_rfl) (by kernel_rfl) (fun _ _ _ h => h) (Or.inr ⟨by rfl, rfl⟩) (HUB.out.drew) ?_
            try simp only [List.getElem_toArray, List.getElem_cons_zero, List.getElem_cons_succ, Act.put, List.setIfInBounds_toArray, List.set_cons_zero, List.set_cons_succ]
            refine wpAnyH_take (i := 18) (v := undef) rfl (by kernel_rfl) (by kernel_rfl) (by kernel_rfl) (fun _ _ _ h => h) (Or.inr ⟨by rfl, rfl⟩) (HUB.out.drew) ?_
            try simp only [List.getElem_toArray, List.getElem_cons_zero, List.getElem_cons_succ, Act.put, List.setIfInBounds_toArray, List.set_cons_zero, List.set_cons_succ]
            refine wpAnyH_take (i := 19) (v := undef) rfl (by kernel_rfl) (by kernel_rfl) (by kernel_rfl) (fun _ _ _ h => h) (Or.inr ⟨by rfl, rfl⟩) (HUB.out.drew) ?_
            try simp only [List.getElem_toArray, List.getElem_cons_zero, List.getElem_cons_succ, Act.put, List.setIfInBounds_toArray, List.set_cons_zero, List.set_cons_succ]
            refine wpAnyH_take (i := 20) (v := ?_) rfl (by kernel_rfl) (by kernel_rfl) (by kernel_rfl) (fun _ _ _ h => h) (Or.inl ⟨by rfl, ?_⟩) (HUB.out.drew) ?_
            rotate_left
            · intro wS hSw
              go_simp
              try with_reducible rfl
            try simp only [List.getElem_toArray, List.getElem_cons_zero, List.getElem_cons_succ, Act.put, List.setIfInBounds_toArray, List.set_cons_zero, List.set_cons_succ]
            refine wpAnyH_take (i := 21) (v := ?_) rfl (by kernel_rfl) (by kernel_rfl) (by kernel_rfl) (fun _ _ _ h => h) (Or.inl ⟨by rfl, ?_⟩) (HUB.out.drew) ?_
            rotate_left
            · intro wS hSw
              go_simp
              try with_reducible rfl
            try simp only [List.getElem_toArray, List.getElem_cons_zero, List.getElem_cons_succ, Act.put, List.setIfInBounds_toArray, List.set_cons_zero, List.set_cons_succ]
            refine wpAnyH_done (by kernel_rfl) ?_ _
            try go_wp2_with fail
            go_meet
            exact ⟨true, rfl, ⟨O', (uf, ut), rfl, .inl HNO.out⟩, Lib.hid HUB.out.drew⟩
      case rest =>
        obtain ⟨r, rfl, hj, HU⟩ := hcut
        have hiM2 := hiM
        have eT : M.take (i + 1) = M.take i ++ [(f, t)] := by rw [List.take_succ_eq_append_getElem hiM, HXE.out]
        have hmem : (f, t) ∈ M := by rw [← HXE.out]; exact List.getElem_mem hiM
        have hemp : Ord.emp f t = false := by
          have h1 := HPM.out.1.mem_iff.1 hmem
          have h2 := (List.mem_filter.1 h1).2
          simpa using h2
        have hsrt : ∀ y ∈ M.take i, Ord.lt f y.1 = false := by
          have h1 : (M.take (i + 1)).Pairwise fun x y => Ord.lt y.1 x.1 = false := List.Pairwise.sublist (List.take_sublist _ _) HPM.out.2
          rw [eT] at h1
          exact (Ord.pair_snoc.1 h1).2
        have HF : Hid (Ord.emp f t = false ∧ M.take (i + 1) = M.take i ++ [(f, t)] ∧ ∀ y ∈ M.take i, Ord.lt f y.1 = false) := Lib.hid ⟨hemp, eT, hsrt⟩
        have hk45 : k ≤ 45 := by
          have h1 := HM.out.len
          have h2 := HO.out.len
          rw [List.length_take] at h1
          omega
        clear hiM2 eT hmem hemp hsrt HUB HO hiM HXE
        cases r
        · have HMN : Hid (Ord.Mrg (M.take (i + 1)) (O ++ [(f, t)])) := Lib.hid (by
            rw [HF.out.2.1]
            rcases hj with rfl | ⟨O', u, rfl, h1, h2⟩
            · exact HM.out.addNil HF.out.1
            · exact HM.out.add HF.out.1 h1 h2)
          have HOW : Hid (Own (wc.alloc (.cells #[.string f, .string t] 26)) w3.heap.size A2 k c2 O) := Lib.hid (HU.out.own.via ((Below.refl _ _).alloc (Nat.le_refl _) _))
          have HBW : Hid (Below w3.heap.size w3 (wc.alloc (.cells #[.string f, .string t] 26))) := Lib.hid (HU.out.below.alloc HU.out.below.size _)
          have HRD : Hid (Rd (wc.alloc (.cells #[.string f, .string t] 26)) (wc.heap.size + 1) (some ⟨wc.heap.size, 0, none⟩) [.string f, .string t]) := Lib.hid (Rd.new wc #[.string f, .string t] 26 (0, 0) (vs := [.string f, .string t]) rfl)
          have hc0 := HU.out.c0
          have hc1 := HU.out.c1
          clear hj HU HM HF
          go_wp2_with (at_builtin; go_loud (refine wpList_appN rfl (.tmp 59) (.tmp 61) _ rfl w3.heap.size 2 26 i0 _ 32 Try.underlying32 HI.out hz0 hz1' hz2 rfl (by decide) A2 k c2 (cellsL O) rfl HOW.out (wc.heap.size + 1) (some ⟨wc.heap.size, 0, none⟩) 1 1 [.string f, .string t] rfl rfl HRD.out (by intro u hu; simp at hu; rcases hu with rfl | rfl <;> rfl) (by unfold maxLen; omega) (by omega) HBW.out.size ?_; intro A5 c5 w5 ho5 hg5 hb5))
          go_roundw
          case rel => exact ⟨i + 1, k + 1, c5, A5, O ++ [(f, t)], by go_num, rfl, by omega, HMN, Lib.hid (by unfold Own; rw [cellsL_app]; exact ho5), Lib.hid (HBW.out.trans hb5)⟩
          case measure => first | (simp [Go.RowKit.intOf]; done) | (simp [Go.RowKit.intOf]; omega)
        · obtain ⟨O', u, rfl, hju⟩ := hj
          obtain ⟨p, hp⟩ : ∃ p, O'.length = p := ⟨_, rfl⟩
          obtain ⟨g2, rfl, hg2, hkp, _, hcl, hfz⟩ := HU.out.own.last hp
          obtain ⟨uf, ut⟩ := u
          have HHI : Hid (∀ W, _) := Lib.hid (fun W => ordHi ut t W)
          have HMN : Hid (Ord.Mrg (M.take (i + 1)) (O' ++ [(uf, Ord.hi ut t)])) := Lib.hid (by rw [HF.out.2.1]; exact HM.out.fuse HF.out.2.2 hju)
          have HOW : Hid (∀ X : ByteArray, Own (wc.setCell ⟨g2, p * 2 + 1, none⟩ (.string X)) w3.heap.size (some ⟨g2, 0, none⟩) k c2 (O' ++ [(uf, X)])) := Lib.hid (fun X => HU.out.own.put hp X)
          have HBW : Hid (∀ X : ByteArray, Below w3.heap.size w3 (wc.setCell ⟨g2, p * 2 + 1, none⟩ (.string X))) := Lib.hid (fun X => HU.out.below.setCell hg2 _)
          have hk1 : (k : Int) - 1 = (p : Int) := by omega
          have hpk : (p : Int) < (k : Int) := by omega
          have hwp : IntKind.i64.wrap (p : Int) = (p : Int) := by rw [IntKind.wrap_i64]; omega
          have hc1 := HU.out.c1
          have hf1 := hfz (p * 2 + 1)
          clear hju hp hkp HU HM HF hfz
          generalize Ord.hi ut t = X at HHI HMN
          dsimp only at hcl hc1
          go_wp2_with fail
          go_region_with (go_at_call 34; refine (HHI.out _).mono ?_; rintro e w' ⟨rfl, rfl⟩)
          all_goals (try go_wp2)
          all_goals exact ⟨⟨i + 1, k, c2, _, _, by go_num, rfl, by omega, HMN, Lib.hid (HOW.out X), Lib.hid (below_drewN (HBW.out X) 1)⟩, by first | (simp [Go.RowKit.intOf]; done) | (simp [Go.RowKit.intOf]; omega)⟩
    · have him2 : i = m := by omega
      have HR : Hid (Own wr w.heap.size A2 k c2 O ∧ Ord.Canon O ∧ (∀ k, Ord.cov O k = Ord.cov L k) ∧ k ≤ n ∧ Below w.heap.size w wr) := Lib.hid (by
        have hMl := HA3.out.1
        have e : M.take i = M := List.take_of_length_le (by omega)
        have hM := HM.out
        rw [e] at hM
        refine ⟨HO.out.lower HB3.out.size, hM.canon, fun k => ?_, ?_, HB3.out.trans (HB.out.mono HB3.out.size)⟩
        · rw [hM.cov, Ord.cov_perm HPM.out.1]
          exact Ord.cov_full
        · have := hM.len
          have := HO.out.len
          omega)
      clear HO HM HB HA3 him2
      go_wp2
      go_ret
      exact ⟨A2, k, c2, rfl, O, HR.out⟩
end Cib
