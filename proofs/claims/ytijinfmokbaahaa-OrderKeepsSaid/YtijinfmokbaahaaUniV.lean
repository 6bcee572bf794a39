/- Order: Covers of both; the document's Same; the law's ordered. -/
import Derived.Test.YtijinfmokbaahaaUniN
import Derived.Deep.RegionHeld
set_option linter.unusedVariables false
set_option linter.unusedSimpArgs false
set_option maxRecDepth 20000
namespace Cib
open Go Go.RowKit Go.Proofs
set_option maxHeartbeats 1000000 in
theorem cov1 (q : Nat) (f t key : ByteArray) (w : World) (hq : w.cell? ⟨q, 0, none⟩ = some (.string key)) (hqw : q < w.heap.size) :
    Calls Try.prog 39 #[.agg #[.string f, .string t], .pointer (some ⟨q, 0, none⟩)] w fun e w' => e = .returned (.bool (Ord.inn f t key)) ∧ Below w.heap.size w w' := by
  have HIN := Lib.hid (fun W => ordIn (f, t) key W)
  unfold sp at HIN
  dsimp only at HIN
  go_enter Try.func39, Try.ntmps39
  go_wp2_with (go_at_call 11; refine (HIN.out _).mono ?_; rintro e w2 ⟨rfl, hb2⟩)
  go_ret
  exact ⟨rfl, ((Below.refl w.heap.size w).alloc (Nat.le_refl _) _).via hb2⟩
set_option maxHeartbeats 1000000 in
theorem coversAl (w : World) (B n c : Nat) (A : Option Addr) (L : List Sn) (key : ByteArray) (hL : L.length = n) (h : Rd w B A (cellsL L)) (hB : B ≤ w.heap.size) (hn : n ≤ 1000) :
    Calls Try.prog 25 #[.slice A n c, .string key] w fun e w' => e = .returned (.bool (Ord.cov L key)) ∧ Below w.heap.size w w' := by
  have hbk := Blk.new w 9 #[.string key]
  have HIX := Lib.hid (idxAny 39 #[.pointer (some ⟨w.heap.size, 0, none⟩)] (fun s => Ord.inn s.1 s.2 key) (w.alloc (.cells #[.string key] 9)) B n c A L (h.alloc hB _) (by simp; omega) hL hn (fun a W => by go_simp)
    (fun i hi W hW => cov1 w.heap.size L[i].1 L[i].2 key W ((hbk.below hW (by simp)).cell 0) (by have := hW.size; simp at this; omega)))
  clear hbk h hB hL
  have HCF : Hid (Calls Try.prog 38 #[.slice A n c, .func (.func 39) #[] #[.pointer (some ⟨w.heap.size, 0, none⟩)]] (w.alloc (.cells #[.string key] 9)) fun e w' => e = .returned (.bool (Ord.cov L key)) ∧ Below (w.alloc (.cells #[.string key] 9)).heap.size (w.alloc (.cells #[.string key] 9)) w') := by
    obtain ⟨R, hR⟩ : ∃ R, Ord.cov L key = R := ⟨_, rfl⟩
    have HR : Hid (∀ v, Idx (fun s => Ord.inn s.1 s.2 key) L v → decide (0 ≤ v) = R) := Lib.hid (fun v hv => by rw [hv.lo, ← hR]; rfl)
    rw [hR]
    clear hR
    refine Lib.hid ?_
    generalize w.alloc (.cells #[.string key] 9) = w1 at HIX ⊢
    generalize w.heap.size = q at HIX ⊢
    go_enter Try.func38, Try.ntmps38
    go_wp2_with (go_at_call 40; refine HIX.out.mono ?_; rintro e w2 ⟨v, rfl, hv, hb2⟩; have hvr := HR.out v hv)
    go_ret
    exact ⟨rfl, hb2⟩
  go_enter Try.func25, Try.ntmps25
  go_wp2_with (go_at_call 38; refine HCF.out.mono ?_; rintro e w2 ⟨rfl, hb2⟩)
  go_ret
  exact ⟨rfl, ((Below.refl w.heap.size w).alloc (Nat.le_refl _) _).via hb2⟩
set_option maxHeartbeats 1000000 in
theorem refCoversAl (w : World) (B n c : Nat) (A : Option Addr) (L : List Sn) (key : ByteArray) (hL : L.length = n) (h : Rd w B A (cellsL L)) (hB : B ≤ w.heap.size) (hn : n ≤ 1000) :
    Calls Try.prog 26 #[.slice A n c, .string key] w fun e w' => e = .returned (.bool (Ord.cov L key)) ∧ Below w.heap.size w w' := by
  obtain ⟨R, hR⟩ : ∃ R, Ord.cov L key = R := ⟨_, rfl⟩
  have HV := Lib.hid hR
  have HR := Lib.hid h
  have HN := Lib.hid hL
  rw [hR]
  clear hR h hL
  go_enter Try.func26, Try.ntmps26
  go_wp2
  go_loopw [5] (fun x5 wx => ∃ j : Nat, x5 = .int .i64 j ∧ j ≤ n ∧ Hid (Ord.cov (L.take j) key = false) ∧ Hid (Below w.heap.size w wx)) (fun x5 _ => n - (Go.RowKit.intOf x5).toNat)
  case atStart => exact ⟨0, rfl, Nat.zero_le _, Lib.hid rfl, Lib.hid (Below.refl _ _)⟩
  case round =>
    obtain ⟨j, rfl, hj, HX, HB⟩ := hrel
    by_cases hlt : j < n
    · have hjL : j < L.length := by rw [HN.out]; exact hlt
      obtain ⟨b, off, rfl, hc1, hc2⟩ := spanAt (HR.out.below (HB.out.mono hB)) hjL
      have HIN := Lib.hid (fun W => refIn20 L[j] key W)
      have HYES : Hid (Ord.inn L[j].1 L[j].2 key = true → R = true) := Lib.hid (fun hp => by rw [← HV.out]; exact Ord.cov_iff.2 ⟨_, List.getElem_mem hjL, hp⟩)
      have HNO : Hid (Ord.inn L[j].1 L[j].2 key = false → Ord.cov (L.take (j + 1)) key = false) := Lib.hid (fun hp => by rw [List.take_succ_eq_append_getElem hjL, Ord.cov_app, HX.out, Ord.cov_one, hp]; rfl)
      generalize L[j] = x at *
      generalize Ord.inn x.1 x.2 key = r at *
      obtain ⟨f, t⟩ := x
      unfold sp at HIN
      dsimp only at hc1 hc2 HIN
      clear HX hjL HR
      cases r
      · go_wp2_with (go_at_call 17; refine (HIN.out _).mono ?_; rintro e w1 ⟨rfl, hb1⟩)
        go_roundw
        case rel => exact ⟨j + 1, by go_num, hlt, Lib.hid (HNO.out (by trivial)), Lib.hid (HB.out.via hb1)⟩
        case measure => first | (simp [Go.RowKit.intOf]; done) | (simp [Go.RowKit.intOf]; omega)
      · obtain rfl : R = true := HYES.out (by trivial)
        go_wp2_with (go_at_call 17; refine (HIN.out _).mono ?_; rintro e w1 ⟨rfl, hb1⟩)
        go_ret
        exact ⟨rfl, HB.out.via hb1⟩
    · obtain rfl : R = false := by
        rw [← HV.out]
        have e : L.take j = L := List.take_of_length_le (by rw [HN.out]; omega)
        rw [← e]
        exact HX.out
      go_wp2
      go_ret
      exact ⟨rfl, HB.out⟩
set_option maxHeartbeats 1000000 in
theorem refSameAl (w : World) (B n c c' : Nat) (A A' : Option Addr) (L : List Sn) (hL : L.length = n) (h : Rd w B A (cellsL L)) (h' : Rd w B A' (cellsL L)) (hB : B ≤ w.heap.size) (hn : n ≤ 1000) :
    Calls Try.prog 20 #[.slice A n c, .slice A' n c'] w fun e w' => e = .returned (.bool true) ∧ Below w.heap.size w w' := by
  have HR := Lib.hid h
  have HR' := Lib.hid h'
  have HN := Lib.hid hL
  clear h h' hL
  go_enter Try.func20, Try.ntmps20
  go_wp2
  go_loopw [5] (fun x5 wx => ∃ j : Nat, x5 = .int .i64 j ∧ j ≤ n ∧ Hid (Below w.heap.size w wx)) (fun x5 _ => n - (Go.RowKit.intOf x5).toNat)
  case atStart => exact ⟨0, rfl, Nat.zero_le _, Lib.hid (Below.refl _ _)⟩
  case round =>
    obtain ⟨j, rfl, hj, HB⟩ := hrel
    by_cases hlt : j < n
    · have hjL : j < L.length := by rw [HN.out]; exact hlt
      obtain ⟨b, off, rfl, hc1, hc2⟩ := spanAt (HR.out.below (HB.out.mono hB)) hjL
      obtain ⟨b', off', rfl, hd1, hd2⟩ := spanAt (HR'.out.below (HB.out.mono hB)) hjL
      generalize L[j] = x at *
      obtain ⟨f, t⟩ := x
      dsimp only at hc1 hc2 hd1 hd2
      clear hjL HR HR'
      have hne : ∀ W : World, Sem.run Try.prog (binOp .neq 26 (.agg #[.string f, .string t]) (.agg #[.string f, .string t])) W = .ok (.bool false) W := fun W => by go_simp
      go_wp2
      go_region
      all_goals (try go_wp2)
      go_roundw
      case rel => exact ⟨j + 1, by go_num, hlt, Lib.hid (below_drewN HB.out 1)⟩
      case measure => first | (simp [Go.RowKit.intOf]; done) | (simp [Go.RowKit.intOf]; omega)
    · go_wp2
      go_ret
      exact ⟨rfl, HB.out⟩
theorem Rd.sp {w : World} {B b off j : Nat} {L : List Sn} {x : Sn} (h : Rd w B (some ⟨b, off, none⟩) (cellsL L)) (hj : j < L.length) (hx : L[j] = x) : w.cell? ⟨b, off + j * 2, none⟩ = some (.string x.1) ∧ w.cell? ⟨b, off + j * 2 + 1, none⟩ = some (.string x.2) := by
  obtain ⟨b', off', e, h1, h2⟩ := spanAt h hj
  injection e with e
  injection e with e1 e2
  subst e1
  subst e2
  rw [hx] at h1 h2
  exact ⟨h1, h2⟩
theorem Rd.sp0 {w : World} {B b off : Nat} {L : List Sn} {f t : ByteArray} (h : Rd w B (some ⟨b, off, none⟩) (cellsL L)) (hj : 0 < L.length) (hx : L[0] = (f, t)) : w.cell? ⟨b, off, none⟩ = some (.string f) ∧ w.cell? ⟨b, off + 1, none⟩ = some (.string t) := by
  have := h.sp hj hx
  simpa using this
set_option maxHeartbeats 2000000 in
theorem orderedAl (w : World) (B n c : Nat) (A : Option Addr) (L : List Sn) (hL : L.length = n) (h : Rd w B A (cellsL L)) (hB : B ≤ w.heap.size) (hn : n ≤ 1000) (hc : Ord.Canon L) :
    Calls Try.prog 27 #[.slice A n c] w fun e w' => e = .returned (.bool true) ∧ Below w.heap.size w w' := by
  have HR := Lib.hid h
  have HN := Lib.hid hL
  have HC := Lib.hid hc
  clear h hL hc
  go_enter Try.func27, Try.ntmps27
  go_wp2
  go_loopw [3] (fun x3 wx => ∃ j : Nat, x3 = .int .i64 j ∧ j ≤ n ∧ Hid (Below w.heap.size w wx)) (fun x3 _ => n - (Go.RowKit.intOf x3).toNat)
  case atStart => exact ⟨0, rfl, Nat.zero_le _, Lib.hid (Below.refl _ _)⟩
  case round =>
    obtain ⟨j, rfl, hj, HB⟩ := hrel
    by_cases hlt : j < n
    · have hjL : j < L.length := by rw [HN.out]; exact hlt
      have hrd := HR.out.below (HB.out.mono hB)
      obtain ⟨b, off, rfl, hc1, hc2⟩ := spanAt hrd hjL
      have HRD := Lib.hid (hrd.drewN 1)
      have HBw := Lib.hid hB
      obtain ⟨x, hx⟩ : ∃ x, L[j] = x := ⟨_, rfl⟩
      have HEM := Lib.hid (fun W => refEmpty20 x W)
      have he := Ord.emp_ref x.1 x.2
      rw [← hx, HC.out.ne L[j] (List.getElem_mem hjL), hx] at he
      rw [he] at HEM
      rw [hx] at hc1 hc2
      obtain ⟨f, t⟩ := x
      unfold sp at HEM
      dsimp only at HEM hc1 hc2
      have HX := Lib.hid hx
      have HJ := Lib.hid hjL
      clear he hx hrd
      rcases Nat.eq_zero_or_pos j with h0 | h0
      · subst h0
        rw [show ((0 : Nat) : Int) = 0 from rfl]
        have h0n : (0 : Int) < (n : Int) := by omega
        go_wp2_with fail
        refine wp_region_held_drew (S := (fun wQq => Rd wQq B (some ⟨b, off, none⟩) (cellsL L) ∧ Below w.heap.size w wQq)) (by kernel_rfl) (⟨HRD.out, below_drewN HB.out 1⟩) (fun _ => ?_)
        refine wpAnyH_take (i := 0) (v := ?_) rfl (by kernel_rfl) (by kernel_rfl) (by kernel_rfl) (fun _ _ _ h => h) (Or.inl ⟨by rfl, ?_⟩) (⟨HRD.out, below_drewN HB.out 1⟩) ?_
        rotate_left
        · intro wS hSw
          go_simp
          try with_reducible rfl
        try simp only [List.getElem_toArray, List.getElem_cons_zero, List.getElem_cons_succ, Act.put, List.setIfInBounds_toArray, List.set_cons_zero, List.set_cons_succ]
        refine wpAnyH_take (i := 1) (v := ?_) rfl (by kernel_rfl) (by kernel_rfl) (by kernel_rfl) (fun _ _ _ h => h) (Or.inl ⟨by rfl, ?_⟩) (⟨HRD.out, below_drewN HB.out 1⟩) ?_
        rotate_left
        · intro wS hSw
          go_simp
          try with_reducible rfl
        try simp only [List.getElem_toArray, List.getElem_cons_zero, List.getElem_cons_succ, Act.put, List.setIfInBounds_toArray, List.set_cons_zero, List.set_cons_succ]
        refine wpAnyH_take (i := 2) (v := ?_) rfl (by kernel_rfl) (by kernel_rfl) (by kernel_rfl) (fun _ _ _ h => h) (Or.inl ⟨by rfl, ?_⟩) (⟨HRD.out, below_drewN HB.out 1⟩) ?_
        rotate_left
        · intro wS hSw
          go_simp
          try with_reducible rfl
        try simp only [List.getElem_toArray, List.getElem_cons_zero, List.getElem_cons_succ, Act.put, List.setIfInBounds_toArray, List.set_cons_zero, List.set_cons_succ]
        refine wpAnyH_take (i := 3) (v := ?_) rfl (by kernel_rfl) (by kernel_rfl) (by kernel_rfl) (fun _ _ _ h => h) (Or.inl ⟨by rfl, ?_⟩) (⟨HRD.out, below_drewN HB.out 1⟩) ?_
        rotate_left
        · intro wS hSw
          have hcv := (hSw.1.sp0 HJ.out HX.out).1
          have hcv2 := (hSw.1.sp0 HJ.out HX.out).2
          go_simp
          try with_reducible rfl
        try simp only [List.getElem_toArray, List.getElem_cons_zero, List.getElem_cons_succ, Act.put, List.setIfInBounds_toArray, List.set_cons_zero, List.set_cons_succ]
        refine wpAnyH_ready (rs := [4]) (by kernel_rfl) (by simp) ?_
        refine AllReadyH.cons rfl (fun K hK => ?_) AllReadyH.nil
        go_simp
        refine (HEM.out _).mono ?_
        rintro e wA ⟨rfl, hbA⟩
        have HRA := Lib.hid (HRD.out.below (hbA.mono (Nat.le_trans HBw.out (below_drewN HB.out 1).size)))
        have HBA := Lib.hid ((below_drewN HB.out 1).via hbA)
        clear hbA
        refine hK.out _ _ ⟨HRA.out, HBA.out⟩ (fun _ => ?_)
        clear hK K
        try simp only [List.getElem_toArray, List.getElem_cons_zero, List.getElem_cons_succ, Act.put, List.setIfInBounds_toArray, List.set_cons_zero, List.set_cons_succ]
        refine wpAnyH_take (i := 5) (v := ?_) rfl (by kernel_rfl) (by kernel_rfl) (by kernel_rfl) (fun _ _ _ h => h) (Or.inl ⟨by rfl, ?_⟩) ⟨HRA.out, HBA.out⟩ ?_
        rotate_left
        · intro wS hSw
          go_simp
          try with_reducible rfl
        try simp only [List.getElem_toArray, List.getElem_cons_zero, List.getElem_cons_succ, Act.put, List.setIfInBounds_toArray, List.set_cons_zero, List.set_cons_succ]
        refine wpAnyH_take (i := 6) (v := ?_) rfl (by kernel_rfl) (by kernel_rfl) (by kernel_rfl) (fun _ _ _ h => h) (Or.inl ⟨by rfl, ?_⟩) ⟨HRA.out, HBA.out⟩ ?_
        rotate_left
        · intro wS hSw
          go_simp
          try with_reducible rfl
        try simp only [List.getElem_toArray, List.getElem_cons_zero, List.getElem_cons_succ, Act.put, List.setIfInBounds_toArray, List.set_cons_zero, List.set_cons_succ]
        refine wpAnyH_take (i := 7) (v := ?_) rfl (by kernel_rfl) (by kernel_rfl) (by kernel_rfl) (fun _ _ _ h => h) (Or.inl ⟨by rfl, ?_⟩) ⟨HRA.out, HBA.out⟩ ?_
        rotate_left
        · intro wS hSw
          go_simp
          try with_reducible rfl
        try simp only [List.getElem_toArray, List.getElem_cons_zero, List.getElem_cons_succ, Act.put, List.setIfInBounds_toArray, List.set_cons_zero, List.set_cons_succ]
        refine wpAnyH_take (i := 8) (v := ?_) rfl (by kernel_rfl) (by kernel_rfl) (by kernel_rfl) (fun _ _ _ h => h) (Or.inl ⟨by rfl, ?_⟩) ⟨HRA.out, HBA.out⟩ ?_
        rotate_left
        · intro wS hSw
          go_simp
          try with_reducible rfl
        try simp only [List.getElem_toArray, List.getElem_cons_zero, List.getElem_cons_succ, Act.put, List.setIfInBounds_toArray, List.set_cons_zero, List.set_cons_succ]
        refine wpAnyH_take (i := 9) (v := undef) rfl (by kernel_rfl) (by kernel_rfl) (by kernel_rfl) (fun _ _ _ h => h) (Or.inr ⟨by rfl, rfl⟩) ⟨HRA.out, HBA.out⟩ ?_
        try simp only [List.getElem_toArray, List.getElem_cons_zero, List.getElem_cons_succ, Act.put, List.setIfInBounds_toArray, List.set_cons_zero, List.set_cons_succ]
        refine wpAnyH_take (i := 10) (v := undef) rfl (by kernel_rfl) (by kernel_rfl) (by kernel_rfl) (fun _ _ _ h => h) (Or.inr ⟨by rfl, rfl⟩) ⟨HRA.out, HBA.out⟩ ?_
        try simp only [List.getElem_toArray, List.getElem_cons_zero, List.getElem_cons_succ, Act.put, List.setIfInBounds_toArray, List.set_cons_zero, List.set_cons_succ]
        refine wpAnyH_take (i := 11) (v := undef) rfl (by kernel_rfl) (by kernel_rfl) (by kernel_rfl) (fun _ _ _ h => h) (Or.inr ⟨by rfl, rfl⟩) ⟨HRA.out, HBA.out⟩ ?_
        try simp only [List.getElem_toArray, List.getElem_cons_zero, List.getElem_cons_succ, Act.put, List.setIfInBounds_toArray, List.set_cons_zero, List.set_cons_succ]
        refine wpAnyH_take (i := 12) (v := undef) rfl (by kernel_rfl) (by kernel_rfl) (by kernel_rfl) (fun _ _ _ h => h) (Or.inr ⟨by rfl, rfl⟩) ⟨HRA.out, HBA.out⟩ ?_
        try simp only [List.getElem_toArray, List.getElem_cons_zero, List.getElem_cons_succ, Act.put, List.setIfInBounds_toArray, List.set_cons_zero, List.set_cons_succ]
        refine wpAnyH_take (i := 13) (v := undef) rfl (by kernel_rfl) (by kernel_rfl) (by kernel_rfl) (fun _ _ _ h => h) (Or.inr ⟨by rfl, rfl⟩) ⟨HRA.out, HBA.out⟩ ?_
        try simp only [List.getElem_toArray, List.getElem_cons_zero, List.getElem_cons_succ, Act.put, List.setIfInBounds_toArray, List.set_cons_zero, List.set_cons_succ]
        refine wpAnyH_take (i := 14) (v := undef) rfl (by kernel_rfl) (by kernel_rfl) (by kernel_rfl) (fun _ _ _ h => h) (Or.inr ⟨by rfl, rfl⟩) ⟨HRA.out, HBA.out⟩ ?_
        try simp only [List.getElem_toArray, List.getElem_cons_zero, List.getElem_cons_succ, Act.put, List.setIfInBounds_toArray, List.set_cons_zero, List.set_cons_succ]
        refine wpAnyH_take (i := 15) (v := undef) rfl (by kernel_rfl) (by kernel_rfl) (by kernel_rfl) (fun _ _ _ h => h) (Or.inr ⟨by rfl, rfl⟩) ⟨HRA.out, HBA.out⟩ ?_
        try simp only [List.getElem_toArray, List.getElem_cons_zero, List.getElem_cons_succ, Act.put, List.setIfInBounds_toArray, List.set_cons_zero, List.set_cons_succ]
        refine wpAnyH_take (i := 16) (v := undef) rfl (by kernel_rfl) (by kernel_rfl) (by kernel_rfl) (fun _ _ _ h => h) (Or.inr ⟨by rfl, rfl⟩) ⟨HRA.out, HBA.out⟩ ?_
        try simp only [List.getElem_toArray, List.getElem_cons_zero, List.getElem_cons_succ, Act.put, List.setIfInBounds_toArray, List.set_cons_zero, List.set_cons_succ]
        refine wpAnyH_take (i := 17) (v := undef) rfl (by kernel_rfl) (by kernel_rfl) (by kernel_rfl) (fun _ _ _ h => h) (Or.inr ⟨by rfl, rfl⟩) ⟨HRA.out, HBA.out⟩ ?_
        try simp only [List.getElem_toArray, List.getElem_cons_zero, List.getElem_cons_succ, Act.put, List.setIfInBounds_toArray, List.set_cons_zero, List.set_cons_succ]
        refine wpAnyH_take (i := 18) (v := undef) rfl (by kernel_rfl) (by kernel_rfl) (by kernel_rfl) (fun _ _ _ h => h) (Or.inr ⟨by rfl, rfl⟩) ⟨HRA.out, HBA.out⟩ ?_
        try simp only [List.getElem_toArray, List.getElem_cons_zero, List.getElem_cons_succ, Act.put, List.setIfInBounds_toArray, List.set_cons_zero, List.set_cons_succ]
        refine wpAnyH_take (i := 19) (v := undef) rfl (by kernel_rfl) (by kernel_rfl) (by kernel_rfl) (fun _ _ _ h => h) (Or.inr ⟨by rfl, rfl⟩) ⟨HRA.out, HBA.out⟩ ?_
        try simp only [List.getElem_toArray, List.getElem_cons_zero, List.getElem_cons_succ, Act.put, List.setIfInBounds_toArray, List.set_cons_zero, List.set_cons_succ]
        refine wpAnyH_take (i := 20) (v := undef) rfl (by kernel_rfl) (by kernel_rfl) (by kernel_rfl) (fun _ _ _ h => h) (Or.inr ⟨by rfl, rfl⟩) ⟨HRA.out, HBA.out⟩ ?_
        try simp only [List.getElem_toArray, List.getElem_cons_zero, List.getElem_cons_succ, Act.put, List.setIfInBounds_toArray, List.set_cons_zero, List.set_cons_succ]
        refine wpAnyH_take (i := 21) (v := undef) rfl (by kernel_rfl) (by kernel_rfl) (by kernel_rfl) (fun _ _ _ h => h) (Or.inr ⟨by rfl, rfl⟩) ⟨HRA.out, HBA.out⟩ ?_
        try simp only [List.getElem_toArray, List.getElem_cons_zero, List.getElem_cons_succ, Act.put, List.setIfInBounds_toArray, List.set_cons_zero, List.set_cons_succ]
        refine wpAnyH_take (i := 22) (v := undef) rfl (by kernel_rfl) (by kernel_rfl) (by kernel_rfl) (fun _ _ _ h => h) (Or.inr ⟨by rfl, rfl⟩) ⟨HRA.out, HBA.out⟩ ?_
        try simp only [List.getElem_toArray, List.getElem_cons_zero, List.getElem_cons_succ, Act.put, List.setIfInBounds_toArray, List.set_cons_zero, List.set_cons_succ]
        refine wpAnyH_take (i := 23) (v := undef) rfl (by kernel_rfl) (by kernel_rfl) (by kernel_rfl) (fun _ _ _ h => h) (Or.inr ⟨by rfl, rfl⟩) ⟨HRA.out, HBA.out⟩ ?_
        try simp only [List.getElem_toArray, List.getElem_cons_zero, List.getElem_cons_succ, Act.put, List.setIfInBounds_toArray, List.set_cons_zero, List.set_cons_succ]
        refine wpAnyH_take (i := 24) (v := undef) rfl (by kernel_rfl) (by kernel_rfl) (by kernel_rfl) (fun _ _ _ h => h) (Or.inr ⟨by rfl, rfl⟩) ⟨HRA.out, HBA.out⟩ ?_
        try simp only [List.getElem_toArray, List.getElem_cons_zero, List.getElem_cons_succ, Act.put, List.setIfInBounds_toArray, List.set_cons_zero, List.set_cons_succ]
        refine wpAnyH_take (i := 25) (v := undef) rfl (by kernel_rfl) (by kernel_rfl) (by kernel_rfl) (fun _ _ _ h => h) (Or.inr ⟨by rfl, rfl⟩) ⟨HRA.out, HBA.out⟩ ?_
        try simp only [List.getElem_toArray, List.getElem_cons_zero, List.getElem_cons_succ, Act.put, List.setIfInBounds_toArray, List.set_cons_zero, List.set_cons_succ]
        refine wpAnyH_take (i := 26) (v := undef) rfl (by kernel_rfl) (by kernel_rfl) (by kernel_rfl) (fun _ _ _ h => h) (Or.inr ⟨by rfl, rfl⟩) ⟨HRA.out, HBA.out⟩ ?_
        try simp only [List.getElem_toArray, List.getElem_cons_zero, List.getElem_cons_succ, Act.put, List.setIfInBounds_toArray, List.set_cons_zero, List.set_cons_succ]
        refine wpAnyH_take (i := 27) (v := undef) rfl (by kernel_rfl) (by kernel_rfl) (by kernel_rfl) (fun _ _ _ h => h) (Or.inr ⟨by rfl, rfl⟩) ⟨HRA.out, HBA.out⟩ ?_
        try simp only [List.getElem_toArray, List.getElem_cons_zero, List.getElem_cons_succ, Act.put, List.setIfInBounds_toArray, List.set_cons_zero, List.set_cons_succ]
        refine wpAnyH_take (i := 28) (v := undef) rfl (by kernel_rfl) (by kernel_rfl) (by kernel_rfl) (fun _ _ _ h => h) (Or.inr ⟨by rfl, rfl⟩) ⟨HRA.out, HBA.out⟩ ?_
        try simp only [List.getElem_toArray, List.getElem_cons_zero, List.getElem_cons_succ, Act.put, List.setIfInBounds_toArray, List.set_cons_zero, List.set_cons_succ]
        refine wpAnyH_take (i := 29) (v := undef) rfl (by kernel_rfl) (by kernel_rfl) (by kernel_rfl) (fun _ _ _ h => h) (Or.inr ⟨by rfl, rfl⟩) ⟨HRA.out, HBA.out⟩ ?_
        try simp only [List.getElem_toArray, List.getElem_cons_zero, List.getElem_cons_succ, Act.put, List.setIfInBounds_toArray, List.set_cons_zero, List.set_cons_succ]
        refine wpAnyH_take (i := 30) (v := ?_) rfl (by kernel_rfl) (by kernel_rfl) (by kernel_rfl) (fun _ _ _ h => h) (Or.inl ⟨by rfl, ?_⟩) ⟨HRA.out, HBA.out⟩ ?_
        rotate_left
        · intro wS hSw
          go_simp
          try with_reducible rfl
        try simp only [List.getElem_toArray, List.getElem_cons_zero, List.getElem_cons_succ, Act.put, List.setIfInBounds_toArray, List.set_cons_zero, List.set_cons_succ]
        refine wpAnyH_take (i := 31) (v := ?_) rfl (by kernel_rfl) (by kernel_rfl) (by kernel_rfl) (fun _ _ _ h => h) (Or.inl ⟨by rfl, ?_⟩) ⟨HRA.out, HBA.out⟩ ?_
        rotate_left
        · intro wS hSw
          go_simp
          try with_reducible rfl
        try simp only [List.getElem_toArray, List.getElem_cons_zero, List.getElem_cons_succ, Act.put, List.setIfInBounds_toArray, List.set_cons_zero, List.set_cons_succ]
        refine wpAnyH_done (by kernel_rfl) ?_ _

        all_goals (try go_wp2)
        go_roundw
        case rel => exact ⟨1, by go_num, hlt, HBA⟩
        case measure => first | (simp [Go.RowKit.intOf]; done) | (simp [Go.RowKit.intOf]; omega)
      · obtain ⟨p, hp⟩ : ∃ p, p = j - 1 := ⟨_, rfl⟩
        have hp1 : (j : Int) - 1 = (p : Int) := by omega
        have hwp : IntKind.i64.wrap (p : Int) = (p : Int) := by rw [IntKind.wrap_i64]; omega
        have hpn : (p : Int) < (n : Int) := by omega
        have hjn : (j : Int) < (n : Int) := by omega
        have hj0 : decide (0 < j) = true := decide_eq_true h0
        have hpL : p < L.length := by have := HJ.out; omega
        have hap := List.pairwise_iff_getElem.1 HC.out.apart p j hpL HJ.out (by omega)
        rw [HX.out] at hap
        obtain ⟨u, hu⟩ : ∃ u, L[p] = u := ⟨_, rfl⟩
        rw [hu] at hap
        obtain ⟨uf, ut⟩ := u
        have hno : ut.toList.isEmpty = false := hap.1
        have hlt1 : Op.bytesLess ut.toList f.toList = true := hap.2
        have hlt2 : Op.bytesLess f.toList ut.toList = false := Ord.lt_asymm hap.2
        have hne : (ut.toList == f.toList) = false := Ord.eq_false.2 (fun e => by have := hap.2; rw [e] at this; dsimp only at this; rw [Ord.lt_irr] at this; cases this)
        have HU := Lib.hid hu
        have HP := Lib.hid hpL
        clear hap hu hp
        go_wp2_with fail
        refine wp_region_held_drew (S := (fun wQq => Rd wQq B (some ⟨b, off, none⟩) (cellsL L) ∧ Below w.heap.size w wQq)) (by kernel_rfl) (⟨HRD.out, below_drewN HB.out 1⟩) (fun _ => ?_)
        refine wpAnyH_take (i := 0) (v := ?_) rfl (by kernel_rfl) (by kernel_rfl) (by kernel_rfl) (fun _ _ _ h => h) (Or.inl ⟨by rfl, ?_⟩) (⟨HRD.out, below_drewN HB.out 1⟩) ?_
        rotate_left
        · intro wS hSw
          go_simp
          try with_reducible rfl
        try simp only [List.getElem_toArray, List.getElem_cons_zero, List.getElem_cons_succ, Act.put, List.setIfInBounds_toArray, List.set_cons_zero, List.set_cons_succ]
        refine wpAnyH_take (i := 1) (v := ?_) rfl (by kernel_rfl) (by kernel_rfl) (by kernel_rfl) (fun _ _ _ h => h) (Or.inl ⟨by rfl, ?_⟩) (⟨HRD.out, below_drewN HB.out 1⟩) ?_
        rotate_left
        · intro wS hSw
          go_simp
          try with_reducible rfl
        try simp only [List.getElem_toArray, List.getElem_cons_zero, List.getElem_cons_succ, Act.put, List.setIfInBounds_toArray, List.set_cons_zero, List.set_cons_succ]
        refine wpAnyH_take (i := 2) (v := ?_) rfl (by kernel_rfl) (by kernel_rfl) (by kernel_rfl) (fun _ _ _ h => h) (Or.inl ⟨by rfl, ?_⟩) (⟨HRD.out, below_drewN HB.out 1⟩) ?_
        rotate_left
        · intro wS hSw
          go_simp
          try with_reducible rfl
        try simp only [List.getElem_toArray, List.getElem_cons_zero, List.getElem_cons_succ, Act.put, List.setIfInBounds_toArray, List.set_cons_zero, List.set_cons_succ]
        refine wpAnyH_take (i := 3) (v := ?_) rfl (by kernel_rfl) (by kernel_rfl) (by kernel_rfl) (fun _ _ _ h => h) (Or.inl ⟨by rfl, ?_⟩) (⟨HRD.out, below_drewN HB.out 1⟩) ?_
        rotate_left
        · intro wS hSw
          have hcv := (hSw.1.sp HJ.out HX.out).1
          have hcv2 := (hSw.1.sp HJ.out HX.out).2
          go_simp
          try with_reducible rfl
        try simp only [List.getElem_toArray, List.getElem_cons_zero, List.getElem_cons_succ, Act.put, List.setIfInBounds_toArray, List.set_cons_zero, List.set_cons_succ]
        refine wpAnyH_ready (rs := [4]) (by kernel_rfl) (by simp) ?_
        refine AllReadyH.cons rfl (fun K hK => ?_) AllReadyH.nil
        go_simp
        refine (HEM.out _).mono ?_
        rintro e wA ⟨rfl, hbA⟩
        have HRA := Lib.hid (HRD.out.below (hbA.mono (Nat.le_trans HBw.out (below_drewN HB.out 1).size)))
        have HBA := Lib.hid ((below_drewN HB.out 1).via hbA)
        clear hbA
        refine hK.out _ _ ⟨HRA.out, HBA.out⟩ (fun _ => ?_)
        clear hK K
        try simp only [List.getElem_toArray, List.getElem_cons_zero, List.getElem_cons_succ, Act.put, List.setIfInBounds_toArray, List.set_cons_zero, List.set_cons_succ]
        refine wpAnyH_take (i := 5) (v := ?_) rfl (by kernel_rfl) (by kernel_rfl) (by kernel_rfl) (fun _ _ _ h => h) (Or.inl ⟨by rfl, ?_⟩) ⟨HRA.out, HBA.out⟩ ?_
        rotate_left
        · intro wS hSw
          go_simp
          try with_reducible rfl
        try simp only [List.getElem_toArray, List.getElem_cons_zero, List.getElem_cons_succ, Act.put, List.setIfInBounds_toArray, List.set_cons_zero, List.set_cons_succ]
        refine wpAnyH_take (i := 6) (v := ?_) rfl (by kernel_rfl) (by kernel_rfl) (by kernel_rfl) (fun _ _ _ h => h) (Or.inl ⟨by rfl, ?_⟩) ⟨HRA.out, HBA.out⟩ ?_
        rotate_left
        · intro wS hSw
          go_simp
          try with_reducible rfl
        try simp only [List.getElem_toArray, List.getElem_cons_zero, List.getElem_cons_succ, Act.put, List.setIfInBounds_toArray, List.set_cons_zero, List.set_cons_succ]
        refine wpAnyH_take (i := 7) (v := ?_) rfl (by kernel_rfl) (by kernel_rfl) (by kernel_rfl) (fun _ _ _ h => h) (Or.inl ⟨by rfl, ?_⟩) ⟨HRA.out, HBA.out⟩ ?_
        rotate_left
        · intro wS hSw
          go_simp
          try with_reducible rfl
        try simp only [List.getElem_toArray, List.getElem_cons_zero, List.getElem_cons_succ, Act.put, List.setIfInBounds_toArray, List.set_cons_zero, List.set_cons_succ]
        refine wpAnyH_take (i := 8) (v := ?_) rfl (by kernel_rfl) (by kernel_rfl) (by kernel_rfl) (fun _ _ _ h => h) (Or.inl ⟨by rfl, ?_⟩) ⟨HRA.out, HBA.out⟩ ?_
        rotate_left
        · intro wS hSw
          go_simp
          try with_reducible rfl
        try simp only [List.getElem_toArray, List.getElem_cons_zero, List.getElem_cons_succ, Act.put, List.setIfInBounds_toArray, List.set_cons_zero, List.set_cons_succ]
        refine wpAnyH_take (i := 9) (v := ?_) rfl (by kernel_rfl) (by kernel_rfl) (by kernel_rfl) (fun _ _ _ h => h) (Or.inl ⟨by rfl, ?_⟩) ⟨HRA.out, HBA.out⟩ ?_
        rotate_left
        · intro wS hSw
          go_simp
          try with_reducible rfl
        try simp only [List.getElem_toArray, List.getElem_cons_zero, List.getElem_cons_succ, Act.put, List.setIfInBounds_toArray, List.set_cons_zero, List.set_cons_succ]
        refine wpAnyH_take (i := 10) (v := ?_) rfl (by kernel_rfl) (by kernel_rfl) (by kernel_rfl) (fun _ _ _ h => h) (Or.inl ⟨by rfl, ?_⟩) ⟨HRA.out, HBA.out⟩ ?_
        rotate_left
        · intro wS hSw
          go_simp
          try with_reducible rfl
        try simp only [List.getElem_toArray, List.getElem_cons_zero, List.getElem_cons_succ, Act.put, List.setIfInBounds_toArray, List.set_cons_zero, List.set_cons_succ]
        refine wpAnyH_take (i := 11) (v := ?_) rfl (by kernel_rfl) (by kernel_rfl) (by kernel_rfl) (fun _ _ _ h => h) (Or.inl ⟨by rfl, ?_⟩) ⟨HRA.out, HBA.out⟩ ?_
        rotate_left
        · intro wS hSw
          go_simp
          try with_reducible rfl
        try simp only [List.getElem_toArray, List.getElem_cons_zero, List.getElem_cons_succ, Act.put, List.setIfInBounds_toArray, List.set_cons_zero, List.set_cons_succ]
        refine wpAnyH_take (i := 12) (v := ?_) rfl (by kernel_rfl) (by kernel_rfl) (by kernel_rfl) (fun _ _ _ h => h) (Or.inl ⟨by rfl, ?_⟩) ⟨HRA.out, HBA.out⟩ ?_
        rotate_left
        · intro wS hSw
          go_simp
          try with_reducible rfl
        try simp only [List.getElem_toArray, List.getElem_cons_zero, List.getElem_cons_succ, Act.put, List.setIfInBounds_toArray, List.set_cons_zero, List.set_cons_succ]
        refine wpAnyH_take (i := 13) (v := ?_) rfl (by kernel_rfl) (by kernel_rfl) (by kernel_rfl) (fun _ _ _ h => h) (Or.inl ⟨by rfl, ?_⟩) ⟨HRA.out, HBA.out⟩ ?_
        rotate_left
        · intro wS hSw
          go_simp
          try with_reducible rfl
        try simp only [List.getElem_toArray, List.getElem_cons_zero, List.getElem_cons_succ, Act.put, List.setIfInBounds_toArray, List.set_cons_zero, List.set_cons_succ]
        refine wpAnyH_take (i := 14) (v := ?_) rfl (by kernel_rfl) (by kernel_rfl) (by kernel_rfl) (fun _ _ _ h => h) (Or.inl ⟨by rfl, ?_⟩) ⟨HRA.out, HBA.out⟩ ?_
        rotate_left
        · intro wS hSw
          have hcv := (hSw.1.sp HP.out HU.out).2
          go_simp
          try with_reducible rfl
        try simp only [List.getElem_toArray, List.getElem_cons_zero, List.getElem_cons_succ, Act.put, List.setIfInBounds_toArray, List.set_cons_zero, List.set_cons_succ]
        refine wpAnyH_take (i := 15) (v := ?_) rfl (by kernel_rfl) (by kernel_rfl) (by kernel_rfl) (fun _ _ _ h => h) (Or.inl ⟨by rfl, ?_⟩) ⟨HRA.out, HBA.out⟩ ?_
        rotate_left
        · intro wS hSw
          go_simp
          try with_reducible rfl
        try simp only [List.getElem_toArray, List.getElem_cons_zero, List.getElem_cons_succ, Act.put, List.setIfInBounds_toArray, List.set_cons_zero, List.set_cons_succ]
        refine wpAnyH_take (i := 16) (v := ?_) rfl (by kernel_rfl) (by kernel_rfl) (by kernel_rfl) (fun _ _ _ h => h) (Or.inl ⟨by rfl, ?_⟩) ⟨HRA.out, HBA.out⟩ ?_
        rotate_left
        · intro wS hSw
          go_simp
          try with_reducible rfl
        try simp only [List.getElem_toArray, List.getElem_cons_zero, List.getElem_cons_succ, Act.put, List.setIfInBounds_toArray, List.set_cons_zero, List.set_cons_succ]
        refine wpAnyH_take (i := 17) (v := ?_) rfl (by kernel_rfl) (by kernel_rfl) (by kernel_rfl) (fun _ _ _ h => h) (Or.inl ⟨by rfl, ?_⟩) ⟨HRA.out, HBA.out⟩ ?_
        rotate_left
        · intro wS hSw
          go_simp
          try with_reducible rfl
        try simp only [List.getElem_toArray, List.getElem_cons_zero, List.getElem_cons_succ, Act.put, List.setIfInBounds_toArray, List.set_cons_zero, List.set_cons_succ]
        refine wpAnyH_take (i := 18) (v := ?_) rfl (by kernel_rfl) (by kernel_rfl) (by kernel_rfl) (fun _ _ _ h => h) (Or.inl ⟨by rfl, ?_⟩) ⟨HRA.out, HBA.out⟩ ?_
        rotate_left
        · intro wS hSw
          go_simp
          try with_reducible rfl
        try simp only [List.getElem_toArray, List.getElem_cons_zero, List.getElem_cons_succ, Act.put, List.setIfInBounds_toArray, List.set_cons_zero, List.set_cons_succ]
        refine wpAnyH_take (i := 19) (v := ?_) rfl (by kernel_rfl) (by kernel_rfl) (by kernel_rfl) (fun _ _ _ h => h) (Or.inl ⟨by rfl, ?_⟩) ⟨HRA.out, HBA.out⟩ ?_
        rotate_left
        · intro wS hSw
          go_simp
          try with_reducible rfl
        try simp only [List.getElem_toArray, List.getElem_cons_zero, List.getElem_cons_succ, Act.put, List.setIfInBounds_toArray, List.set_cons_zero, List.set_cons_succ]
        refine wpAnyH_take (i := 20) (v := ?_) rfl (by kernel_rfl) (by kernel_rfl) (by kernel_rfl) (fun _ _ _ h => h) (Or.inl ⟨by rfl, ?_⟩) ⟨HRA.out, HBA.out⟩ ?_
        rotate_left
        · intro wS hSw
          go_simp
          try with_reducible rfl
        try simp only [List.getElem_toArray, List.getElem_cons_zero, List.getElem_cons_succ, Act.put, List.setIfInBounds_toArray, List.set_cons_zero, List.set_cons_succ]
        refine wpAnyH_take (i := 21) (v := ?_) rfl (by kernel_rfl) (by kernel_rfl) (by kernel_rfl) (fun _ _ _ h => h) (Or.inl ⟨by rfl, ?_⟩) ⟨HRA.out, HBA.out⟩ ?_
        rotate_left
        · intro wS hSw
          go_simp
          try with_reducible rfl
        try simp only [List.getElem_toArray, List.getElem_cons_zero, List.getElem_cons_succ, Act.put, List.setIfInBounds_toArray, List.set_cons_zero, List.set_cons_succ]
        refine wpAnyH_take (i := 23) (v := ?_) rfl (by kernel_rfl) (by kernel_rfl) (by kernel_rfl) (fun _ _ _ h => h) (Or.inl ⟨by rfl, ?_⟩) ⟨HRA.out, HBA.out⟩ ?_
        rotate_left
        · intro wS hSw
          go_simp
          try with_reducible rfl
        try simp only [List.getElem_toArray, List.getElem_cons_zero, List.getElem_cons_succ, Act.put, List.setIfInBounds_toArray, List.set_cons_zero, List.set_cons_succ]
        refine wpAnyH_take (i := 24) (v := ?_) rfl (by kernel_rfl) (by kernel_rfl) (by kernel_rfl) (fun _ _ _ h => h) (Or.inl ⟨by rfl, ?_⟩) ⟨HRA.out, HBA.out⟩ ?_
        rotate_left
        · intro wS hSw
          go_simp
          try with_reducible rfl
        try simp only [List.getElem_toArray, List.getElem_cons_zero, List.getElem_cons_succ, Act.put, List.setIfInBounds_toArray, List.set_cons_zero, List.set_cons_succ]
        refine wpAnyH_take (i := 25) (v := ?_) rfl (by kernel_rfl) (by kernel_rfl) (by kernel_rfl) (fun _ _ _ h => h) (Or.inl ⟨by rfl, ?_⟩) ⟨HRA.out, HBA.out⟩ ?_
        rotate_left
        · intro wS hSw
          go_simp
          try with_reducible rfl
        try simp only [List.getElem_toArray, List.getElem_cons_zero, List.getElem_cons_succ, Act.put, List.setIfInBounds_toArray, List.set_cons_zero, List.set_cons_succ]
        refine wpAnyH_take (i := 26) (v := ?_) rfl (by kernel_rfl) (by kernel_rfl) (by kernel_rfl) (fun _ _ _ h => h) (Or.inl ⟨by rfl, ?_⟩) ⟨HRA.out, HBA.out⟩ ?_
        rotate_left
        · intro wS hSw
          go_simp
          try with_reducible rfl
        try simp only [List.getElem_toArray, List.getElem_cons_zero, List.getElem_cons_succ, Act.put, List.setIfInBounds_toArray, List.set_cons_zero, List.set_cons_succ]
        refine wpAnyH_take (i := 22) (v := ?_) rfl (by kernel_rfl) (by kernel_rfl) (by kernel_rfl) (fun _ _ _ h => h) (Or.inl ⟨by rfl, ?_⟩) ⟨HRA.out, HBA.out⟩ ?_
        rotate_left
        · intro wS hSw
          have hcv := (hSw.1.sp HP.out HU.out).2
          go_simp
          try with_reducible rfl
        try simp only [List.getElem_toArray, List.getElem_cons_zero, List.getElem_cons_succ, Act.put, List.setIfInBounds_toArray, List.set_cons_zero, List.set_cons_succ]
        refine wpAnyH_take (i := 27) (v := ?_) rfl (by kernel_rfl) (by kernel_rfl) (by kernel_rfl) (fun _ _ _ h => h) (Or.inl ⟨by rfl, ?_⟩) ⟨HRA.out, HBA.out⟩ ?_
        rotate_left
        · intro wS hSw
          have hcv := (hSw.1.sp HJ.out HX.out).1
          go_simp
          try with_reducible rfl
        try simp only [List.getElem_toArray, List.getElem_cons_zero, List.getElem_cons_succ, Act.put, List.setIfInBounds_toArray, List.set_cons_zero, List.set_cons_succ]
        refine wpAnyH_take (i := 28) (v := ?_) rfl (by kernel_rfl) (by kernel_rfl) (by kernel_rfl) (fun _ _ _ h => h) (Or.inl ⟨by rfl, ?_⟩) ⟨HRA.out, HBA.out⟩ ?_
        rotate_left
        · intro wS hSw
          go_simp
          try with_reducible rfl
        try simp only [List.getElem_toArray, List.getElem_cons_zero, List.getElem_cons_succ, Act.put, List.setIfInBounds_toArray, List.set_cons_zero, List.set_cons_succ]
        refine wpAnyH_take (i := 29) (v := ?_) rfl (by kernel_rfl) (by kernel_rfl) (by kernel_rfl) (fun _ _ _ h => h) (Or.inl ⟨by rfl, ?_⟩) ⟨HRA.out, HBA.out⟩ ?_
        rotate_left
        · intro wS hSw
          go_simp
          try with_reducible rfl
        try simp only [List.getElem_toArray, List.getElem_cons_zero, List.getElem_cons_succ, Act.put, List.setIfInBounds_toArray, List.set_cons_zero, List.set_cons_succ]
        refine wpAnyH_take (i := 30) (v := ?_) rfl (by kernel_rfl) (by kernel_rfl) (by kernel_rfl) (fun _ _ _ h => h) (Or.inl ⟨by rfl, ?_⟩) ⟨HRA.out, HBA.out⟩ ?_
        rotate_left
        · intro wS hSw
          go_simp
          try with_reducible rfl
        try simp only [List.getElem_toArray, List.getElem_cons_zero, List.getElem_cons_succ, Act.put, List.setIfInBounds_toArray, List.set_cons_zero, List.set_cons_succ]
        refine wpAnyH_take (i := 31) (v := ?_) rfl (by kernel_rfl) (by kernel_rfl) (by kernel_rfl) (fun _ _ _ h => h) (Or.inl ⟨by rfl, ?_⟩) ⟨HRA.out, HBA.out⟩ ?_
        rotate_left
        · intro wS hSw
          go_simp
          try with_reducible rfl
        try simp only [List.getElem_toArray, List.getElem_cons_zero, List.getElem_cons_succ, Act.put, List.setIfInBounds_toArray, List.set_cons_zero, List.set_cons_succ]
        refine wpAnyH_done (by kernel_rfl) ?_ _

        all_goals (try go_wp2)
        go_roundw
        case rel => exact ⟨j + 1, by go_num, hlt, HBA⟩
        case measure => first | (simp [Go.RowKit.intOf]; done) | (simp [Go.RowKit.intOf]; omega)
    · go_wp2
      go_ret
      exact ⟨rfl, HB.out⟩
end Cib
