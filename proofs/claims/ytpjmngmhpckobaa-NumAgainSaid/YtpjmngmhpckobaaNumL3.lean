/- What the law NumAgain does. -/
import Derived.Test.YtpjmngmhpckobaaNumL1
import Derived.Deep.RegionHeld3
set_option linter.unusedVariables false
set_option linter.unusedSimpArgs false
set_option maxRecDepth 40000
namespace Num
theorem var_again (bs : List UInt8) (at_ : Int) (n : Nat) (p : Int) (h : var bs at_ = (n, p, 0)) :
    ∃ a P : Nat, at_ = (a : Int) ∧ p = (P : Int) ∧ a < P ∧ P ≤ bs.length ∧ (bs.drop a).take (P - a) = vb n ∧ n < 18446744073709551616 := by
  unfold var at h
  by_cases hc : at_ < 0 ∨ (bs.length : Int) < at_
  · rw [if_pos hc] at h
    simp at h
  · rw [if_neg hc] at h
    obtain ⟨a, rfl⟩ := Int.eq_ofNat_of_zero_le (by omega : 0 ≤ at_)
    rw [Int.toNat_natCast] at h
    simp only [Prod.mk.injEq] at h
    obtain ⟨h1, h2, h3⟩ := h
    rw [if_pos h3] at h2
    obtain ⟨q, e1, e2, e3, e4, e5, e6, e7⟩ := rv_ok (bs.drop a) 0 0 (by omega) h3
    rw [List.length_drop] at e3
    have hq : n = q := by rw [← h1, e1]; simp
    subst hq
    refine ⟨a, a + (rv (bs.drop a) 0 0).2.1, rfl, by rw [← h2]; simp, by omega, by omega, ?_, by unfold cap at e6; simpa using e6⟩
    rw [Nat.add_sub_cancel_left]
    exact e4
theorem part_again (bs : List UInt8) (at_ most : Int) (xs : List UInt8) (p : Int) (h : part bs at_ most = (xs, p, 0)) :
    ∃ a P : Nat, at_ = (a : Int) ∧ p = (P : Int) ∧ a < P ∧ P ≤ bs.length ∧ (bs.drop a).take (P - a) = vb xs.length ++ xs ∧ xs.length ≤ bs.length := by
  unfold part at h
  rcases hv : var bs at_ with ⟨n, q, e⟩
  rw [hv] at h
  simp only at h
  by_cases he : e ≠ 0
  · rw [if_pos he] at h
    simp only [Prod.mk.injEq] at h
    exact absurd h.2.2 he
  · rw [if_neg he] at h
    have he0 : e = 0 := by omega
    subst he0
    obtain ⟨a, P, rfl, rfl, h1, h2, h3, h4⟩ := var_again bs at_ n q hv
    by_cases h5 : (max most 0).toNat < n
    · rw [if_pos h5] at h
      simp at h
    · rw [if_neg h5] at h
      rw [Int.toNat_natCast] at h
      by_cases h6 : bs.length - P < n
      · rw [if_pos h6] at h
        simp at h
      · rw [if_neg h6] at h
        simp only [Prod.mk.injEq] at h
        obtain ⟨rfl, rfl, _⟩ := h
        have hl : ((bs.drop P).take n).length = n := by simp; omega
        refine ⟨a, P + n, rfl, by simp, by omega, by omega, ?_, by omega⟩
        rw [hl, ← h3, show P + n - a = (P - a) + n from by omega]
        apply List.ext_getElem
        · simp; omega
        · intro i i1 i2
          by_cases hi : i < P - a
          · rw [List.getElem_append_left (by simp; omega)]
            simp
          · rw [List.getElem_append_right (by simp; omega)]
            simp
            congr 1
            omega
end Num
namespace Go.Proofs.Ytpjmngmhpckobaa
open Go.RowKit Cib
/-- What string(v) answers in a world in which the slice reads as the text. -/
def Strs (A : Option Addr) (n c : Nat) (xs : List UInt8) (w : World) : Prop := (convert 22 9 (.slice A n c)).run Try.prog w = .ok (.string ⟨xs.toArray⟩) w
theorem strs_mk {A : Option Addr} {n : Nat} {xs : List UInt8} {w : World} {B : Nat} (h : Rd w B A (xs.map bv)) (hn : xs.length = n) (c : Nat) : Strs A n c xs w :=
  run_str (P := Try.prog) 22 9 5 Try.underlying22 Try.underlying5 Try.underlying9 h hn c

set_option maxHeartbeats 1000000 in
theorem lawAgain (A : Option Addr) (cap : Nat) (bs : List UInt8) (at_ : Int) (w : World) (h : Rd w w.heap.size A (bs.map bv)) (hcap : bs.length ≤ cap) (hcm : cap ≤ maxLen) (ha : -9223372036854775808 ≤ at_ ∧ at_ ≤ 9223372036854775807) :
    Calls Try.prog 6 #[.slice A bs.length cap, .int .i64 at_] w fun e w' => e = .returned (.bool true) ∧ Below w.heap.size w w' := by
  have hcm' := hcm
  unfold maxLen at hcm'
  by_cases hlt : 2000 < bs.length
  · go_enter Try.func6, Try.ntmps6
    go_wp2_with fail
    refine (read _).mono ?_
    rintro e w' ⟨rfl, hb⟩
    go_wp2_with fail
    go_ret
    exact ⟨rfl, hb⟩
  · have hx := fun (W : World) (hw : Below w.heap.size w W) => numVar A cap bs at_ W _ (h.below hw) rfl hcap hcm ha
    have hv := Num.var_again bs at_
    unfold varV at hx
    generalize Num.var bs at_ = v at *
    obtain ⟨n, p, e⟩ := v
    simp only at hx hv
    have HX := Lib.hid hx
    have HV := Lib.hid hv
    clear hx hv
    go_enter Try.func6, Try.ntmps6
    go_wp2_with (at_builtin; refine appB _ rfl (.tmp 20) (.tmp 21) rfl w.heap.size none 0 0 [] rfl (World.ownsRow_nil _ _ _ _) _ A bs.length cap _ rfl (by simp) h one_bytes (by omega) (Nat.le_refl _) ?_; intro A1 c1 w1 ho1 hg1 hb1; rw [Nat.zero_add, List.nil_append] at ho1)
    have hrw := Rd.of_own ho1
    clear hg1 ho1
    refine (HX.out _ hb1).mono ?_
    rintro _ _ ⟨rfl, rfl⟩
    go_upto_region 6 with fail
    go_cut [53] (fun s wx => s = .bool false ∧ Below w1.heap.size w1 wx)
    case first =>
      by_cases he : e = 0
      · obtain ⟨a, P, rfl, rfl, h1, h2, h3, h4⟩ := HV.out n p (by rw [he])
        have hbe : ((e : Int) == 0) = true := by rw [he]; rfl
        clear he
        have H4 := Lib.hid h4
        clear h4 HX HV
        have hsl := fun W : World => run_cut_both (P := Try.prog) 22 5 Try.underlying22 sizeByte A bs.length cap a P .i64 .i64 (by omega) (by omega) W
        have hrp : Rd w w.heap.size (cut A cap a) ((Num.vb n).map bv) := by
          rw [← h3, List.map_take, List.map_drop]
          exact (h.cut (by rw [List.length_map]; omega) (by rw [List.length_map]; omega)).take (P - a)
        have hpl : (Num.vb n).length = P - a := by rw [← h3]; simp; omega
        have HS := fun (W : World) (hw : Below w.heap.size w W) => strs_mk (hrp.below hw) hpl (cap - a)
        generalize cut A cap a = A2 at *
        have HPL := Lib.hid hpl
        clear h3 hpl
        have hs0 := HS w1.drew hb1.drew
        have HS' := Lib.hid HS
        clear HS
        unfold Strs at hs0
        have hg1 : decide (P ≤ a) = false := by simp; omega
        have hg3 : decide ((P : Int) ≤ (a : Int)) = false := by simp; omega
        have hg4 : decide ((bs.length : Int) < (P : Int)) = false := by simp; omega
        have hg5 : decide (P < a + 1) = false := by simp; omega
        have hg2 : decide (bs.length < P) = false := by simp; omega
        refine wp_region_held_drew (S := (fun w' => (convert 22 9 (.slice A2 (P - a) (cap - a))).run Try.prog w' = .ok (.string ⟨(Num.vb n).toArray⟩) w')) (by kernel_rfl) hs0 (fun hHeld => ?_)
        refine wpAnyH_take (i := 0) (v := ?_) rfl (by kernel_rfl) (by kernel_rfl) (by kernel_rfl) (fun _ _ _ h => h) (Or.inl ⟨by rfl, ?_⟩) hHeld ?_
        rotate_left
        · intro wS hSw
          (try dsimp only at hSw)
          go_simp
          try with_reducible rfl
        try simp only [List.getElem_toArray, List.getElem_cons_zero, List.getElem_cons_succ, Act.put, List.setIfInBounds_toArray, List.set_cons_zero, List.set_cons_succ]
        refine wpAnyH_take (i := 1) (v := ?_) rfl (by kernel_rfl) (by kernel_rfl) (by kernel_rfl) (fun _ _ _ h => h) (Or.inl ⟨by rfl, ?_⟩) hHeld ?_
        rotate_left
        · intro wS hSw
          (try dsimp only at hSw)
          go_simp
          try with_reducible rfl
        try simp only [List.getElem_toArray, List.getElem_cons_zero, List.getElem_cons_succ, Act.put, List.setIfInBounds_toArray, List.set_cons_zero, List.set_cons_succ]
        refine wpAnyH_take (i := 2) (v := ?_) rfl (by kernel_rfl) (by kernel_rfl) (by kernel_rfl) (fun _ _ _ h => h) (Or.inl ⟨by rfl, ?_⟩) hHeld ?_
        rotate_left
        · intro wS hSw
          (try dsimp only at hSw)
          go_simp
          try with_reducible rfl
        try simp only [List.getElem_toArray, List.getElem_cons_zero, List.getElem_cons_succ, Act.put, List.setIfInBounds_toArray, List.set_cons_zero, List.set_cons_succ]
        refine wpAnyH_take (i := 3) (v := ?_) rfl (by kernel_rfl) (by kernel_rfl) (by kernel_rfl) (fun _ _ _ h => h) (Or.inl ⟨by rfl, ?_⟩) hHeld ?_
        rotate_left
        · intro wS hSw
          (try dsimp only at hSw)
          go_simp
          try with_reducible rfl
        try simp only [List.getElem_toArray, List.getElem_cons_zero, List.getElem_cons_succ, Act.put, List.setIfInBounds_toArray, List.set_cons_zero, List.set_cons_succ]
        refine wpAnyH_take (i := 4) (v := ?_) rfl (by kernel_rfl) (by kernel_rfl) (by kernel_rfl) (fun _ _ _ h => h) (Or.inl ⟨by rfl, ?_⟩) hHeld ?_
        rotate_left
        · intro wS hSw
          (try dsimp only at hSw)
          go_simp
          try with_reducible rfl
        try simp only [List.getElem_toArray, List.getElem_cons_zero, List.getElem_cons_succ, Act.put, List.setIfInBounds_toArray, List.set_cons_zero, List.set_cons_succ]
        refine wpAnyH_take (i := 5) (v := ?_) rfl (by kernel_rfl) (by kernel_rfl) (by kernel_rfl) (fun _ _ _ h => h) (Or.inl ⟨by rfl, ?_⟩) hHeld ?_
        rotate_left
        · intro wS hSw
          (try dsimp only at hSw)
          go_simp
          try with_reducible rfl
        try simp only [List.getElem_toArray, List.getElem_cons_zero, List.getElem_cons_succ, Act.put, List.setIfInBounds_toArray, List.set_cons_zero, List.set_cons_succ]
        refine wpAnyH_take (i := 6) (v := ?_) rfl (by kernel_rfl) (by kernel_rfl) (by kernel_rfl) (fun _ _ _ h => h) (Or.inl ⟨by rfl, ?_⟩) hHeld ?_
        rotate_left
        · intro wS hSw
          (try dsimp only at hSw)
          go_simp
          try with_reducible rfl
        try simp only [List.getElem_toArray, List.getElem_cons_zero, List.getElem_cons_succ, Act.put, List.setIfInBounds_toArray, List.set_cons_zero, List.set_cons_succ]
        refine wpAnyH_take (i := 7) (v := ?_) rfl (by kernel_rfl) (by kernel_rfl) (by kernel_rfl) (fun _ _ _ h => h) (Or.inl ⟨by rfl, ?_⟩) hHeld ?_
        rotate_left
        · intro wS hSw
          (try dsimp only at hSw)
          go_simp
          try with_reducible rfl
        try simp only [List.getElem_toArray, List.getElem_cons_zero, List.getElem_cons_succ, Act.put, List.setIfInBounds_toArray, List.set_cons_zero, List.set_cons_succ]
        refine wpAnyH_take (i := 8) (v := ?_) rfl (by kernel_rfl) (by kernel_rfl) (by kernel_rfl) (fun _ _ _ h => h) (Or.inl ⟨by rfl, ?_⟩) hHeld ?_
        rotate_left
        · intro wS hSw
          (try dsimp only at hSw)
          go_simp
          try with_reducible rfl
        try simp only [List.getElem_toArray, List.getElem_cons_zero, List.getElem_cons_succ, Act.put, List.setIfInBounds_toArray, List.set_cons_zero, List.set_cons_succ]
        refine wpAnyH_take (i := 9) (v := ?_) rfl (by kernel_rfl) (by kernel_rfl) (by kernel_rfl) (fun _ _ _ h => h) (Or.inl ⟨by rfl, ?_⟩) hHeld ?_
        rotate_left
        · intro wS hSw
          (try dsimp only at hSw)
          go_simp
          try with_reducible rfl
        try simp only [List.getElem_toArray, List.getElem_cons_zero, List.getElem_cons_succ, Act.put, List.setIfInBounds_toArray, List.set_cons_zero, List.set_cons_succ]
        refine wpAnyH_take (i := 10) (v := ?_) rfl (by kernel_rfl) (by kernel_rfl) (by kernel_rfl) (fun _ _ _ h => h) (Or.inl ⟨by rfl, ?_⟩) hHeld ?_
        rotate_left
        · intro wS hSw
          (try dsimp only at hSw)
          go_simp
          try with_reducible rfl
        try simp only [List.getElem_toArray, List.getElem_cons_zero, List.getElem_cons_succ, Act.put, List.setIfInBounds_toArray, List.set_cons_zero, List.set_cons_succ]
        refine wpAnyH_take (i := 11) (v := ?_) rfl (by kernel_rfl) (by kernel_rfl) (by kernel_rfl) (fun _ _ _ h => h) (Or.inl ⟨by rfl, ?_⟩) hHeld ?_
        rotate_left
        · intro wS hSw
          (try dsimp only at hSw)
          go_simp
          try with_reducible rfl
        try simp only [List.getElem_toArray, List.getElem_cons_zero, List.getElem_cons_succ, Act.put, List.setIfInBounds_toArray, List.set_cons_zero, List.set_cons_succ]
        refine wpAnyH_take (i := 12) (v := ?_) rfl (by kernel_rfl) (by kernel_rfl) (by kernel_rfl) (fun _ _ _ h => h) (Or.inl ⟨by rfl, ?_⟩) hHeld ?_
        rotate_left
        · intro wS hSw
          (try dsimp only at hSw)
          go_simp
          try with_reducible rfl
        try simp only [List.getElem_toArray, List.getElem_cons_zero, List.getElem_cons_succ, Act.put, List.setIfInBounds_toArray, List.set_cons_zero, List.set_cons_succ]
        refine wpAnyH_take (i := 13) (v := ?_) rfl (by kernel_rfl) (by kernel_rfl) (by kernel_rfl) (fun _ _ _ h => h) (Or.inl ⟨by rfl, ?_⟩) hHeld ?_
        rotate_left
        · intro wS hSw
          (try dsimp only at hSw)
          go_simp
          try with_reducible rfl
        try simp only [List.getElem_toArray, List.getElem_cons_zero, List.getElem_cons_succ, Act.put, List.setIfInBounds_toArray, List.set_cons_zero, List.set_cons_succ]
        refine wpAnyH_take (i := 16) (v := ?_) rfl (by kernel_rfl) (by kernel_rfl) (by kernel_rfl) (fun _ _ _ h => h) (Or.inl ⟨by rfl, ?_⟩) hHeld ?_
        rotate_left
        · intro wS hSw
          (try dsimp only at hSw)
          go_simp
          try with_reducible rfl
        try simp only [List.getElem_toArray, List.getElem_cons_zero, List.getElem_cons_succ, Act.put, List.setIfInBounds_toArray, List.set_cons_zero, List.set_cons_succ]
        refine wpAnyH_take (i := 17) (v := ?_) rfl (by kernel_rfl) (by kernel_rfl) (by kernel_rfl) (fun _ _ _ h => h) (Or.inl ⟨by rfl, ?_⟩) hHeld ?_
        rotate_left
        · intro wS hSw
          (try dsimp only at hSw)
          go_simp
          try with_reducible rfl
        try simp only [List.getElem_toArray, List.getElem_cons_zero, List.getElem_cons_succ, Act.put, List.setIfInBounds_toArray, List.set_cons_zero, List.set_cons_succ]
        refine wpAnyH_take (i := 18) (v := ?_) rfl (by kernel_rfl) (by kernel_rfl) (by kernel_rfl) (fun _ _ _ h => h) (Or.inl ⟨by rfl, ?_⟩) hHeld ?_
        rotate_left
        · intro wS hSw
          (try dsimp only at hSw)
          go_simp
          try with_reducible rfl
        try simp only [List.getElem_toArray, List.getElem_cons_zero, List.getElem_cons_succ, Act.put, List.setIfInBounds_toArray, List.set_cons_zero, List.set_cons_succ]
        refine wpAnyH_take (i := 19) (v := ?_) rfl (by kernel_rfl) (by kernel_rfl) (by kernel_rfl) (fun _ _ _ h => h) (Or.inl ⟨by rfl, ?_⟩) hHeld ?_
        rotate_left
        · intro wS hSw
          (try dsimp only at hSw)
          go_simp
          try with_reducible rfl
        try simp only [List.getElem_toArray, List.getElem_cons_zero, List.getElem_cons_succ, Act.put, List.setIfInBounds_toArray, List.set_cons_zero, List.set_cons_succ]
        refine wpAnyH_take (i := 20) (v := ?_) rfl (by kernel_rfl) (by kernel_rfl) (by kernel_rfl) (fun _ _ _ h => h) (Or.inl ⟨by rfl, ?_⟩) hHeld ?_
        rotate_left
        · intro wS hSw
          (try dsimp only at hSw)
          go_simp
          try with_reducible rfl
        try simp only [List.getElem_toArray, List.getElem_cons_zero, List.getElem_cons_succ, Act.put, List.setIfInBounds_toArray, List.set_cons_zero, List.set_cons_succ]
        refine wpAnyH_ready (rs := [14]) (by kernel_rfl) (by simp) ?_
        refine AllReadyH.cons rfl (fun K hK => ?_) AllReadyH.nil
        go_simp
        refine (numPutVar none 0 [] n _ 0 (Rd.nil _ _ _) (len := 0) rfl (Nat.zero_le _) H4.out (by omega)).mono ?_
        rintro _ w5 ⟨A5, n5, c5, rfl, hn5, ho5, hb5⟩
        have hs5 := HS'.out w5 (hb1.drew.via hb5)
        unfold Strs at hs5
        have hs6 := strs_mk (Rd.of_own ho5) hn5 c5
        unfold Strs at hs6
        rw [List.nil_append] at hs6
        clear hn5
        refine hK.out _ _ hs5 (fun hHeld2 => ?_)
        clear hK K
        try simp only [List.getElem_toArray, List.getElem_cons_zero, List.getElem_cons_succ, Act.put, List.setIfInBounds_toArray, List.set_cons_zero, List.set_cons_succ]
        refine wpAnyH_ready (rs := [15]) (by kernel_rfl) (by simp) ?_
        refine AllReadyH.cons rfl (fun K hK => ?_) AllReadyH.nil
        go_simp
        refine hK.out _ _ hs5 (fun hHeld3 => ?_)
        clear hK K
        try simp only [List.getElem_toArray, List.getElem_cons_zero, List.getElem_cons_succ, Act.put, List.setIfInBounds_toArray, List.set_cons_zero, List.set_cons_succ]
        refine wpAnyH_take (i := 21) (v := ?_) rfl (by kernel_rfl) (by kernel_rfl) (by kernel_rfl) (fun _ _ _ h => h) (Or.inl ⟨by rfl, ?_⟩) hHeld3 ?_
        rotate_left
        · intro wS hSw
          (try dsimp only at hSw)
          go_simp
          try with_reducible rfl
        try simp only [List.getElem_toArray, List.getElem_cons_zero, List.getElem_cons_succ, Act.put, List.setIfInBounds_toArray, List.set_cons_zero, List.set_cons_succ]
        refine wpAnyH_take (i := 22) (v := ?_) rfl (by kernel_rfl) (by kernel_rfl) (by kernel_rfl) (fun _ _ _ h => h) (Or.inl ⟨by rfl, ?_⟩) hHeld3 ?_
        rotate_left
        · intro wS hSw
          (try dsimp only at hSw)
          go_simp
          try with_reducible rfl
        try simp only [List.getElem_toArray, List.getElem_cons_zero, List.getElem_cons_succ, Act.put, List.setIfInBounds_toArray, List.set_cons_zero, List.set_cons_succ]
        refine wpAnyH_take (i := 23) (v := ?_) rfl (by kernel_rfl) (by kernel_rfl) (by kernel_rfl) (fun _ _ _ h => h) (Or.inl ⟨by rfl, ?_⟩) hHeld3 ?_
        rotate_left
        · intro wS hSw
          (try dsimp only at hSw)
          go_simp
          try with_reducible rfl
        try simp only [List.getElem_toArray, List.getElem_cons_zero, List.getElem_cons_succ, Act.put, List.setIfInBounds_toArray, List.set_cons_zero, List.set_cons_succ]
        refine wpAnyH_done (by kernel_rfl) ?_ _
        go_wp2_with fail
        go_meet
        exact ⟨by simp, (Below.refl _ _).drew.trans hb5⟩
      · have hbe : ((e : Int) == 0) = false := by simp; omega
        clear he HV HX
        go_quiet (fail)
        go_wp2_with fail
        go_meet
        exact ⟨rfl, below_drewN (Below.refl _ _) _⟩
    case rest =>
      obtain ⟨rfl, hw2⟩ := hcut
      clear HX HV
      replace hb1 := hb1.via hw2
      have hrw2 := (hrw.below hw2).more hw2.size
      clear hrw hw2
      have hx := fun (W : World) (hw : Below w.heap.size w W) => numText A cap bs at_ 2000 W _ (h.below hw) rfl hcap hcm ha (by decide)
      have hz := fun (W : World) (hw : Below w.heap.size w W) => numBytes A cap bs at_ 2000 W _ (h.below hw) rfl hcap hcm hw.size (by omega) ha (by decide)
      have hv := Num.part_again bs at_ 2000
      generalize Num.part bs at_ 2000 = v at *
      obtain ⟨xs, p2, e2⟩ := v
      simp only at hx hz hv
      have HX := Lib.hid hx
      have HZ := Lib.hid hz
      have HV := Lib.hid hv
      clear hx hz hv
      go_wp2_with fail
      refine (HX.out _ hb1).mono ?_
      rintro _ _ ⟨rfl, rfl⟩
      go_upto_region 9 with fail
      go_cut [84] (fun s wx => s = .bool false ∧ Below wc.heap.size wc wx)
      case first =>
        by_cases he : e2 = 0
        · obtain ⟨a, P, rfl, rfl, h1, h2, h3, h4⟩ := HV.out xs p2 (by rw [he])
          have hbe : ((e2 : Int) == 0) = true := by rw [he]; rfl
          clear he HX HZ HV
          have hsl := fun W : World => run_cut_both (P := Try.prog) 22 5 Try.underlying22 sizeByte A bs.length cap a P .i64 .i64 (by omega) (by omega) W
          have hrp : Rd w w.heap.size (cut A cap a) ((Num.vb xs.length ++ xs).map bv) := by
            rw [← h3, List.map_take, List.map_drop]
            exact (h.cut (by rw [List.length_map]; omega) (by rw [List.length_map]; omega)).take (P - a)
          have hpl : (Num.vb xs.length ++ xs).length = P - a := by rw [← h3]; simp; omega
          have HS := fun (W : World) (hw : Below w.heap.size w W) => strs_mk (hrp.below hw) hpl (cap - a)
          generalize cut A cap a = A2 at *
          have hxt : Hid (Num.text [] (⟨xs.toArray⟩ : ByteArray).data.toList = Num.vb xs.length ++ xs) := by unfold Hid Num.text; simp
          have hxl : (⟨xs.toArray⟩ : ByteArray).size ≤ bs.length := by show xs.toArray.size ≤ _; simpa using h4
          have HXL := Lib.hid hxl
          clear h3 hpl h4 hxl
          have hs0 := HS wc.drew hb1.drew
          have HS' := Lib.hid HS
          clear HS
          unfold Strs at hs0
          have hg1 : decide (P ≤ a) = false := by simp; omega
          have hg2 : decide (bs.length < P) = false := by simp; omega
          refine wp_region_held_drew (S := (fun w' => (convert 22 9 (.slice A2 (P - a) (cap - a))).run Try.prog w' = .ok (.string ⟨(Num.vb xs.length ++ xs).toArray⟩) w')) (by kernel_rfl) hs0 (fun hHeld => ?_)
          refine wpAnyH_take (i := 0) (v := ?_) rfl (by kernel_rfl) (by kernel_rfl) (by kernel_rfl) (fun _ _ _ h => h) (Or.inl ⟨by rfl, ?_⟩) hHeld ?_
          rotate_left
          · intro wS hSw
            (try dsimp only at hSw)
            go_simp
            try with_reducible rfl
          try simp only [List.getElem_toArray, List.getElem_cons_zero, List.getElem_cons_succ, Act.put, List.setIfInBounds_toArray, List.set_cons_zero, List.set_cons_succ]
          refine wpAnyH_take (i := 1) (v := ?_) rfl (by kernel_rfl) (by kernel_rfl) (by kernel_rfl) (fun _ _ _ h => h) (Or.inl ⟨by rfl, ?_⟩) hHeld ?_
          rotate_left
          · intro wS hSw
            (try dsimp only at hSw)
            go_simp
            try with_reducible rfl
          try simp only [List.getElem_toArray, List.getElem_cons_zero, List.getElem_cons_succ, Act.put, List.setIfInBounds_toArray, List.set_cons_zero, List.set_cons_succ]
          refine wpAnyH_take (i := 2) (v := ?_) rfl (by kernel_rfl) (by kernel_rfl) (by kernel_rfl) (fun _ _ _ h => h) (Or.inl ⟨by rfl, ?_⟩) hHeld ?_
          rotate_left
          · intro wS hSw
            (try dsimp only at hSw)
            go_simp
            try with_reducible rfl
          try simp only [List.getElem_toArray, List.getElem_cons_zero, List.getElem_cons_succ, Act.put, List.setIfInBounds_toArray, List.set_cons_zero, List.set_cons_succ]
          refine wpAnyH_take (i := 3) (v := ?_) rfl (by kernel_rfl) (by kernel_rfl) (by kernel_rfl) (fun _ _ _ h => h) (Or.inl ⟨by rfl, ?_⟩) hHeld ?_
          rotate_left
          · intro wS hSw
            (try dsimp only at hSw)
            go_simp
            try with_reducible rfl
          try simp only [List.getElem_toArray, List.getElem_cons_zero, List.getElem_cons_succ, Act.put, List.setIfInBounds_toArray, List.set_cons_zero, List.set_cons_succ]
          refine wpAnyH_take (i := 4) (v := ?_) rfl (by kernel_rfl) (by kernel_rfl) (by kernel_rfl) (fun _ _ _ h => h) (Or.inl ⟨by rfl, ?_⟩) hHeld ?_
          rotate_left
          · intro wS hSw
            (try dsimp only at hSw)
            go_simp
            try with_reducible rfl
          try simp only [List.getElem_toArray, List.getElem_cons_zero, List.getElem_cons_succ, Act.put, List.setIfInBounds_toArray, List.set_cons_zero, List.set_cons_succ]
          refine wpAnyH_take (i := 5) (v := ?_) rfl (by kernel_rfl) (by kernel_rfl) (by kernel_rfl) (fun _ _ _ h => h) (Or.inl ⟨by rfl, ?_⟩) hHeld ?_
          rotate_left
          · intro wS hSw
            (try dsimp only at hSw)
            go_simp
            try with_reducible rfl
          try simp only [List.getElem_toArray, List.getElem_cons_zero, List.getElem_cons_succ, Act.put, List.setIfInBounds_toArray, List.set_cons_zero, List.set_cons_succ]
          refine wpAnyH_take (i := 6) (v := ?_) rfl (by kernel_rfl) (by kernel_rfl) (by kernel_rfl) (fun _ _ _ h => h) (Or.inl ⟨by rfl, ?_⟩) hHeld ?_
          rotate_left
          · intro wS hSw
            (try dsimp only at hSw)
            go_simp
            try with_reducible rfl
          try simp only [List.getElem_toArray, List.getElem_cons_zero, List.getElem_cons_succ, Act.put, List.setIfInBounds_toArray, List.set_cons_zero, List.set_cons_succ]
          refine wpAnyH_take (i := 7) (v := ?_) rfl (by kernel_rfl) (by kernel_rfl) (by kernel_rfl) (fun _ _ _ h => h) (Or.inl ⟨by rfl, ?_⟩) hHeld ?_
          rotate_left
          · intro wS hSw
            (try dsimp only at hSw)
            go_simp
            try with_reducible rfl
          try simp only [List.getElem_toArray, List.getElem_cons_zero, List.getElem_cons_succ, Act.put, List.setIfInBounds_toArray, List.set_cons_zero, List.set_cons_succ]
          refine wpAnyH_take (i := 8) (v := ?_) rfl (by kernel_rfl) (by kernel_rfl) (by kernel_rfl) (fun _ _ _ h => h) (Or.inl ⟨by rfl, ?_⟩) hHeld ?_
          rotate_left
          · intro wS hSw
            (try dsimp only at hSw)
            go_simp
            try with_reducible rfl
          try simp only [List.getElem_toArray, List.getElem_cons_zero, List.getElem_cons_succ, Act.put, List.setIfInBounds_toArray, List.set_cons_zero, List.set_cons_succ]
          refine wpAnyH_take (i := 9) (v := ?_) rfl (by kernel_rfl) (by kernel_rfl) (by kernel_rfl) (fun _ _ _ h => h) (Or.inl ⟨by rfl, ?_⟩) hHeld ?_
          rotate_left
          · intro wS hSw
            (try dsimp only at hSw)
            go_simp
            try with_reducible rfl
          try simp only [List.getElem_toArray, List.getElem_cons_zero, List.getElem_cons_succ, Act.put, List.setIfInBounds_toArray, List.set_cons_zero, List.set_cons_succ]
          refine wpAnyH_take (i := 10) (v := ?_) rfl (by kernel_rfl) (by kernel_rfl) (by kernel_rfl) (fun _ _ _ h => h) (Or.inl ⟨by rfl, ?_⟩) hHeld ?_
          rotate_left
          · intro wS hSw
            (try dsimp only at hSw)
            go_simp
            try with_reducible rfl
          try simp only [List.getElem_toArray, List.getElem_cons_zero, List.getElem_cons_succ, Act.put, List.setIfInBounds_toArray, List.set_cons_zero, List.set_cons_succ]
          refine wpAnyH_take (i := 11) (v := ?_) rfl (by kernel_rfl) (by kernel_rfl) (by kernel_rfl) (fun _ _ _ h => h) (Or.inl ⟨by rfl, ?_⟩) hHeld ?_
          rotate_left
          · intro wS hSw
            (try dsimp only at hSw)
            go_simp
            try with_reducible rfl
          try simp only [List.getElem_toArray, List.getElem_cons_zero, List.getElem_cons_succ, Act.put, List.setIfInBounds_toArray, List.set_cons_zero, List.set_cons_succ]
          refine wpAnyH_take (i := 12) (v := ?_) rfl (by kernel_rfl) (by kernel_rfl) (by kernel_rfl) (fun _ _ _ h => h) (Or.inl ⟨by rfl, ?_⟩) hHeld ?_
          rotate_left
          · intro wS hSw
            (try dsimp only at hSw)
            go_simp
            try with_reducible rfl
          try simp only [List.getElem_toArray, List.getElem_cons_zero, List.getElem_cons_succ, Act.put, List.setIfInBounds_toArray, List.set_cons_zero, List.set_cons_succ]
          refine wpAnyH_take (i := 13) (v := ?_) rfl (by kernel_rfl) (by kernel_rfl) (by kernel_rfl) (fun _ _ _ h => h) (Or.inl ⟨by rfl, ?_⟩) hHeld ?_
          rotate_left
          · intro wS hSw
            (try dsimp only at hSw)
            go_simp
            try with_reducible rfl
          try simp only [List.getElem_toArray, List.getElem_cons_zero, List.getElem_cons_succ, Act.put, List.setIfInBounds_toArray, List.set_cons_zero, List.set_cons_succ]
          refine wpAnyH_take (i := 16) (v := ?_) rfl (by kernel_rfl) (by kernel_rfl) (by kernel_rfl) (fun _ _ _ h => h) (Or.inl ⟨by rfl, ?_⟩) hHeld ?_
          rotate_left
          · intro wS hSw
            (try dsimp only at hSw)
            go_simp
            try with_reducible rfl
          try simp only [List.getElem_toArray, List.getElem_cons_zero, List.getElem_cons_succ, Act.put, List.setIfInBounds_toArray, List.set_cons_zero, List.set_cons_succ]
          refine wpAnyH_take (i := 17) (v := ?_) rfl (by kernel_rfl) (by kernel_rfl) (by kernel_rfl) (fun _ _ _ h => h) (Or.inl ⟨by rfl, ?_⟩) hHeld ?_
          rotate_left
          · intro wS hSw
            (try dsimp only at hSw)
            go_simp
            try with_reducible rfl
          try simp only [List.getElem_toArray, List.getElem_cons_zero, List.getElem_cons_succ, Act.put, List.setIfInBounds_toArray, List.set_cons_zero, List.set_cons_succ]
          refine wpAnyH_take (i := 18) (v := ?_) rfl (by kernel_rfl) (by kernel_rfl) (by kernel_rfl) (fun _ _ _ h => h) (Or.inl ⟨by rfl, ?_⟩) hHeld ?_
          rotate_left
          · intro wS hSw
            (try dsimp only at hSw)
            go_simp
            try with_reducible rfl
          try simp only [List.getElem_toArray, List.getElem_cons_zero, List.getElem_cons_succ, Act.put, List.setIfInBounds_toArray, List.set_cons_zero, List.set_cons_succ]
          refine wpAnyH_take (i := 19) (v := ?_) rfl (by kernel_rfl) (by kernel_rfl) (by kernel_rfl) (fun _ _ _ h => h) (Or.inl ⟨by rfl, ?_⟩) hHeld ?_
          rotate_left
          · intro wS hSw
            (try dsimp only at hSw)
            go_simp
            try with_reducible rfl
          try simp only [List.getElem_toArray, List.getElem_cons_zero, List.getElem_cons_succ, Act.put, List.setIfInBounds_toArray, List.set_cons_zero, List.set_cons_succ]
          refine wpAnyH_take (i := 20) (v := ?_) rfl (by kernel_rfl) (by kernel_rfl) (by kernel_rfl) (fun _ _ _ h => h) (Or.inl ⟨by rfl, ?_⟩) hHeld ?_
          rotate_left
          · intro wS hSw
            (try dsimp only at hSw)
            go_simp
            try with_reducible rfl
          try simp only [List.getElem_toArray, List.getElem_cons_zero, List.getElem_cons_succ, Act.put, List.setIfInBounds_toArray, List.set_cons_zero, List.set_cons_succ]
          refine wpAnyH_ready (rs := [14]) (by kernel_rfl) (by simp) ?_
          refine AllReadyH.cons rfl (fun K hK => ?_) AllReadyH.nil
          go_simp
          refine (numPutText none 0 [] ⟨xs.toArray⟩ _ 0 (Rd.nil _ _ _) (len := 0) rfl (Nat.zero_le _) (by have := HXL.out; omega)).mono ?_
          rintro _ w5 ⟨A5, n5, c5, rfl, hn5, ho5, hb5⟩
          rw [hxt.out] at hn5 ho5
          have hs5 := HS'.out w5 (hb1.drew.via hb5)
          unfold Strs at hs5
          have hs6 := strs_mk (Rd.of_own ho5) hn5 c5
          unfold Strs at hs6
          clear hn5
          refine hK.out _ _ hs5 (fun hHeld2 => ?_)
          clear hK K
          try simp only [List.getElem_toArray, List.getElem_cons_zero, List.getElem_cons_succ, Act.put, List.setIfInBounds_toArray, List.set_cons_zero, List.set_cons_succ]
          refine wpAnyH_ready (rs := [15]) (by kernel_rfl) (by simp) ?_
          refine AllReadyH.cons rfl (fun K hK => ?_) AllReadyH.nil
          go_simp
          refine hK.out _ _ hs5 (fun hHeld3 => ?_)
          clear hK K
          try simp only [List.getElem_toArray, List.getElem_cons_zero, List.getElem_cons_succ, Act.put, List.setIfInBounds_toArray, List.set_cons_zero, List.set_cons_succ]
          refine wpAnyH_take (i := 21) (v := ?_) rfl (by kernel_rfl) (by kernel_rfl) (by kernel_rfl) (fun _ _ _ h => h) (Or.inl ⟨by rfl, ?_⟩) hHeld3 ?_
          rotate_left
          · intro wS hSw
            (try dsimp only at hSw)
            go_simp
            try with_reducible rfl
          try simp only [List.getElem_toArray, List.getElem_cons_zero, List.getElem_cons_succ, Act.put, List.setIfInBounds_toArray, List.set_cons_zero, List.set_cons_succ]
          refine wpAnyH_take (i := 22) (v := ?_) rfl (by kernel_rfl) (by kernel_rfl) (by kernel_rfl) (fun _ _ _ h => h) (Or.inl ⟨by rfl, ?_⟩) hHeld3 ?_
          rotate_left
          · intro wS hSw
            (try dsimp only at hSw)
            go_simp
            try with_reducible rfl
          try simp only [List.getElem_toArray, List.getElem_cons_zero, List.getElem_cons_succ, Act.put, List.setIfInBounds_toArray, List.set_cons_zero, List.set_cons_succ]
          refine wpAnyH_take (i := 23) (v := ?_) rfl (by kernel_rfl) (by kernel_rfl) (by kernel_rfl) (fun _ _ _ h => h) (Or.inl ⟨by rfl, ?_⟩) hHeld3 ?_
          rotate_left
          · intro wS hSw
            (try dsimp only at hSw)
            go_simp
            try with_reducible rfl
          try simp only [List.getElem_toArray, List.getElem_cons_zero, List.getElem_cons_succ, Act.put, List.setIfInBounds_toArray, List.set_cons_zero, List.set_cons_succ]
          refine wpAnyH_done (by kernel_rfl) ?_ _
          go_wp2_with fail
          go_meet
          exact ⟨by simp, (Below.refl _ _).drew.trans hb5⟩
        · have hbe : ((e2 : Int) == 0) = false := by simp; omega
          clear he HV HX HZ
          go_quiet (fail)
          go_wp2_with fail
          go_meet
          exact ⟨rfl, below_drewN (Below.refl _ _) _⟩
      case rest =>
        obtain ⟨rfl, hw3⟩ := hcut
        replace hb1 := hb1.via hw3
        replace hrw2 := (hrw2.below hw3).more hw3.size
        have HZ' := Lib.hid (HZ.out _ hb1)
        clear hw3 HZ HX
        go_wp2_with fail
        refine HZ'.out.mono ?_
        rintro _ w4 ⟨A4, n4, c4, rfl, hn4, ho4, hb4⟩
        have hb14 := hb1.via hb4
        have HN4 := Lib.hid hn4
        clear hn4 HZ'
        have hn42 : n4 ≤ 9223372036854775807 := by
          have := ho4.2
          rcases this with ⟨hv, h0⟩ | ⟨g, cp, cur, hv, _, _, h1, h2, _⟩
          · omega
          · unfold maxLen at h2
            omega
        obtain ⟨wd, rfl⟩ : ∃ x : World, x = wc := ⟨_, rfl⟩
        go_upto_if 93 with fail
        go_cut [15] (fun _ wx => Below wd.heap.size wd wx)
        case first =>
          by_cases he : e2 = 0
          · obtain ⟨a, P, rfl, rfl, h1, h2, h3, h4⟩ := HV.out xs p2 (by rw [he])
            have hbe : ((e2 : Int) == 0) = true := by rw [he]; rfl
            have hg1 : decide (P ≤ a) = false := by simp; omega
            have hg2 : decide (bs.length < P) = false := by simp; omega
            clear he HV h3
            go_wp2
            go_loopw [15] (fun i wr => ∃ k ys, k ≤ n4 ∧ i = .int .i64 (k : Nat) ∧ Below wd.heap.size wd wr ∧ Hid ((ys : List UInt8).length = n4) ∧ wr.ownsRow wd.heap.size 5 1 (.slice A4 n4 c4) n4 (ys.map bv)) (fun i _ => n4 - (intOf i).toNat)
            case atStart => exact ⟨0, xs, Nat.zero_le _, rfl, hb4, HN4, ho4⟩
            case round =>
              clear hb4 ho4
              obtain ⟨k, ys, hk, rfl, hb, hyl, ho⟩ := hrel
              by_cases hlt4 : k < n4
              · obtain ⟨g, rfl, hg⟩ := own_at ho (by omega)
                have hky : k < ys.length := by rw [hyl.out]; exact hlt4
                obtain ⟨hc1, hf1, hset⟩ := own_byte ho hky
                obtain ⟨z, hz⟩ : ∃ z : UInt8, (((ys[k]).toNat : Int) + 1) % 256 = (z.toNat : Int) := ⟨UInt8.ofNat ((ys[k]).toNat + 1), by rw [UInt8.toNat_ofNat']; simp⟩
                have HS := Lib.hid (hset z 0)
                clear hset
                generalize ys[k] = y at *
                go_wp2
                exact ⟨⟨k + 1, ys.set k z, by omega, by go_num, hb.setCell hg _, by unfold Hid; rw [List.length_set]; exact hyl.out, HS.out⟩, by simp [intOf]; omega⟩
              · go_wp2
                go_meet
                exact hb
          · have hbe : ((e2 : Int) == 0) = false := by simp; omega
            clear he HV
            go_wp2
            go_meet
            exact hb4
        case rest =>
          have hwc : Below wd.heap.size wd wc := hcut
          clear hcut HV hb4 ho4 hb14
          replace hb1 := hb1.via hwc
          have hrw3 := (hrw2.below hwc).more hwc.size
          clear hrw2 hwc
          obtain ⟨wa, rfl⟩ : ∃ x : World, x = wc := ⟨_, rfl⟩
          have kc := fun (w : World) (C : Array Value) (n c : Nat) => Lib.run_convert_bytes_const (P := Try.prog) w 22 5 C n c Try.underlying22 Try.underlying5
          have hsl := fun W : World => run_cut_to (P := Try.prog) 22 5 Try.underlying22 sizeByte A bs.length cap (bs.length / 2) .i64 (by omega) W
          rw [Int.natCast_ediv] at hsl
          have hr2 : Rd w w.heap.size A ((bs.take (bs.length / 2)).map bv) := by rw [List.map_take]; exact h.take _
          have hl2 : (bs.take (bs.length / 2)).length = bs.length / 2 := by simp; omega
          have HL2 := Lib.hid hl2
          clear hl2
          go_wp2_with fail
          refine (numPut A cap (bs.take (bs.length / 2)) 8 7 _ _ (hr2.below hb1) HL2.out hb1.size (by decide) (by decide) (by omega)).mono ?_
          rintro _ w5 ⟨A5, n5, c5, rfl, hn5, ho5, hb5⟩
          replace hb1 := hb1.via hb5
          replace hrw3 := (hrw3.below hb5).more hb5.size
          clear hn5 ho5 hb5
          go_wp2_with fail
          refine (numPutVar A cap (bs.take (bs.length / 2)) 777777 _ _ (hr2.below hb1) HL2.out hb1.size (by decide) (by omega)).mono ?_
          rintro _ w6 ⟨A6, n6, c6, rfl, hn6, ho6, hb6⟩
          replace hb1 := hb1.via hb6
          replace hrw3 := (hrw3.below hb6).more hb6.size
          clear hn6 ho6 hb6
          go_wp2_with fail
          refine (numPutBytes A cap (bs.take (bs.length / 2)) _ 3 [120, 121, 122] _ (w6.heap.size + 1) ((((hr2.below hb1)).alloc hb1.size _).more (by have := hb1.size; omega)) HL2.out (by exact Rd.new _ _ _ _ rfl) rfl (by simp) (by simp; omega)).mono ?_
          rintro _ w7 ⟨A7, n7, c7, rfl, hn7, ho7, hb7⟩
          replace hb7 := ((Below.refl _ _).alloc (Nat.le_refl _) _).via hb7
          replace hb1 := hb1.via hb7
          replace hrw3 := (hrw3.below hb7).more hb7.size
          clear hn7 ho7 hb7 kc hsl
          have hs1 := strs_mk (h.below hb1) rfl cap
          have hs2 := strs_mk hrw3 rfl c1
          unfold Strs at hs1 hs2
          go_wp2_with fail
          refine (read _).mono ?_
          rintro e w' ⟨rfl, hb⟩
          go_wp2_with fail
          go_ret
          exact ⟨rfl, hb1.via hb⟩
end Go.Proofs.Ytpjmngmhpckobaa
