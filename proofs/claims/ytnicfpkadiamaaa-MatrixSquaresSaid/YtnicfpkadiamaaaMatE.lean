/- The document's Identity, Mul. -/
import Derived.Test.YtnicfpkadiamaaaMatU
set_option linter.unusedVariables false
set_option linter.unusedSimpArgs false
set_option maxRecDepth 40000
namespace Cib
open Go Go.RowKit Go.Proofs
/-- A matrix and no error. -/
def NewE (r c : Nat) (bs : List UInt8) (w : World) (e : Ending) (w' : World) : Prop :=
  ∃ A k, e = .returned (.tuple #[.agg (mv r c A (r * c) k), .int .i64 0]) ∧ bs.length = r * c ∧ w'.ownsRow w.heap.size 5 1 (.slice A (r * c) k) (r * c) (bs.map bv) ∧ Below w.heap.size w w'
theorem one_get? {n q : Nat} (h : q < n * n) : (Lin.oneL n)[q]? = some (Lin.dl (q / n) (q % n)) := by
  have h' : q < (Lin.oneL n).length := by unfold Lin.oneL; rw [tabN_length]; exact h
  rw [List.getElem?_eq_getElem h']
  congr 1
  unfold Lin.oneL
  exact tabN_get _ _ _ _
set_option maxHeartbeats 2000000 in
theorem refIdentity4 (n : Nat) (hn1 : 1 ≤ n) (hn2 : n ≤ 255) (w : World) :
    Calls Try.prog 17 #[.int .i64 (n : Int)] w (NewE n n (Lin.oneL n) w) := by
  have hnn : n * n ≤ 65025 := Nat.mul_le_mul hn2 hn2
  have hmul : (n : Int) * (n : Int) = ((n * n : Nat) : Int) := by simp
  have HTL : Hid ((Lin.oneL n).length = n * n) := Lib.hid (tabN_length _ _ _)
  have HTG := Lib.hid fun q (h : q < n * n) => one_get? h
  have H0 : Hid (TuI w (w.heap.size + 1) n n (Lin.oneL n) 0 none 0 ((w.alloc (.cells (mv 0 0 none 0 0) 24)).alloc (.cells (mv n n none 0 0) 24))) := by
    refine Lib.hid ⟨?_, World.ownsRow_nil _ _ _ _, ((Below.refl _ _).alloc (Nat.le_refl _) _).alloc (by simp) _, by omega⟩
    have := Blk.new (w.alloc (.cells (mv 0 0 none 0 0) 24)) 24 (mv n n none 0 0)
    simpa using this
  have hres : Hid (Blk ((w.alloc (.cells (mv 0 0 none 0 0) 24)).alloc (.cells (mv n n none 0 0) 24)) w.heap.size 24 (mv 0 0 none 0 0)) := Lib.hid ((Blk.new w _ _).alloc _)
  obtain ⟨T, hT⟩ : ∃ T, n * n = T := ⟨_, rfl⟩
  have HT := Lib.hid hT
  unfold NewE
  rw [hT] at hmul hnn HTL HTG ⊢
  clear hT
  unfold mv at H0 hres ⊢
  go_enter Try.func17, Try.ntmps17
  go_wp2
  go_loopw [5] (fun i wr => ∃ (q : Nat) (A' : Option Addr) (c' : Nat), i = .int .i64 q ∧ q ≤ T ∧ Hid (TuI w (w.heap.size + 1) n n (Lin.oneL n) q A' c' wr) ∧ Hid (Blk wr w.heap.size 24 #[.int .i64 0, .int .i64 0, .slice none 0 0])) (fun i _ => T - (intOf i).toNat)
  case atStart => exact ⟨0, none, 0, rfl, Nat.zero_le _, H0, hres⟩
  case round =>
    clear H0 hres
    obtain ⟨q, A', c', rfl, hq, hI, hZ⟩ := hrel
    by_cases hlq : q < T
    · have HX := Lib.hid (HTG.out q hlq)
      have hd : ((q : Int)).tdiv (n : Int) = ((q / n : Nat) : Int) := by rw [Int.tdiv_eq_ediv_of_nonneg (by omega)]; simp
      have hm : ((q : Int)).tmod (n : Int) = ((q % n : Nat) : Int) := by rw [Int.tmod_eq_emod_of_nonneg (by omega)]; simp
      have hcm : wr.drew.cell? ⟨w.heap.size + 1, 2, none⟩ = some (.slice A' q c') := hI.out.blk.cell 2
      have hsz := hI.out.below.size
      have HII : Hid (TuI w (w.heap.size + 1) n n (Lin.oneL n) q A' c' wr.drew) := Lib.hid (hI.out.via (below_drewN (Below.refl _ _) 1))
      have HZZ : Hid (Blk wr.drew w.heap.size 24 #[.int .i64 0, .int .i64 0, .slice none 0 0]) := Lib.hid hZ.out
      have hnz : ¬ n = 0 := by omega
      have hd1 : q / n ≤ 65025 := Nat.le_trans (Nat.div_le_self _ _) (by omega)
      have hm1 : q % n < n := Nat.mod_lt _ (by omega)
      generalize q / n = a at *
      generalize q % n = b at *
      have hw1 : IntKind.i64.wrap (a : Int) = (a : Int) := by rw [IntKind.wrap_i64]; omega
      have hw2 : IntKind.i64.wrap (b : Int) = (b : Int) := by rw [IntKind.wrap_i64]; omega
      clear hI hZ
      go_wp2
      refine wp_region_held_drew (S := (fun _ => True)) (by kernel_rfl) trivial (fun _ => ?_)
      refine wpAnyH_take (i := 0) (v := ?_) rfl (by kernel_rfl) (by kernel_rfl) (by kernel_rfl) (fun _ _ _ h => h) (Or.inl ⟨by rfl, ?_⟩) trivial ?_
      rotate_left
      · intro wS hSw
        go_simp
        try with_reducible rfl
      try simp only [List.getElem_toArray, List.getElem_cons_zero, List.getElem_cons_succ, Act.put, List.setIfInBounds_toArray, List.set_cons_zero, List.set_cons_succ]
      refine wpAnyH_take (i := 1) (v := ?_) rfl (by kernel_rfl) (by kernel_rfl) (by kernel_rfl) (fun _ _ _ h => h) (Or.inl ⟨by rfl, ?_⟩) trivial ?_
      rotate_left
      · intro wS hSw
        go_simp
        try with_reducible rfl
      try simp only [List.getElem_toArray, List.getElem_cons_zero, List.getElem_cons_succ, Act.put, List.setIfInBounds_toArray, List.set_cons_zero, List.set_cons_succ]
      refine wpAnyH_take (i := 2) (v := ?_) rfl (by kernel_rfl) (by kernel_rfl) (by kernel_rfl) (fun _ _ _ h => h) (Or.inl ⟨by rfl, ?_⟩) trivial ?_
      rotate_left
      · intro wS hSw
        go_simp
        try with_reducible rfl
      try simp only [List.getElem_toArray, List.getElem_cons_zero, List.getElem_cons_succ, Act.put, List.setIfInBounds_toArray, List.set_cons_zero, List.set_cons_succ]
      refine wpAnyH_take (i := 3) (v := ?_) rfl (by kernel_rfl) (by kernel_rfl) (by kernel_rfl) (fun _ _ _ h => h) (Or.inl ⟨by rfl, ?_⟩) trivial ?_
      rotate_left
      · intro wS hSw
        go_simp
        try with_reducible rfl
      try simp only [List.getElem_toArray, List.getElem_cons_zero, List.getElem_cons_succ, Act.put, List.setIfInBounds_toArray, List.set_cons_zero, List.set_cons_succ]
      refine wpAnyH_take (i := 4) (v := ?_) rfl (by kernel_rfl) (by kernel_rfl) (by kernel_rfl) (fun _ _ _ h => h) (Or.inl ⟨by rfl, ?_⟩) trivial ?_
      rotate_left
      · intro wS hSw
        go_simp
        try with_reducible rfl
      try simp only [List.getElem_toArray, List.getElem_cons_zero, List.getElem_cons_succ, Act.put, List.setIfInBounds_toArray, List.set_cons_zero, List.set_cons_succ]
      refine wpAnyH_take (i := 5) (v := ?_) rfl (by kernel_rfl) (by kernel_rfl) (by kernel_rfl) (fun _ _ _ h => h) (Or.inl ⟨by rfl, ?_⟩) trivial ?_
      rotate_left
      · intro wS hSw
        go_simp
        try with_reducible rfl
      try simp only [List.getElem_toArray, List.getElem_cons_zero, List.getElem_cons_succ, Act.put, List.setIfInBounds_toArray, List.set_cons_zero, List.set_cons_succ]
      refine wpAnyH_take (i := 6) (v := ?_) rfl (by kernel_rfl) (by kernel_rfl) (by kernel_rfl) (fun _ _ _ h => h) (Or.inl ⟨by rfl, ?_⟩) trivial ?_
      rotate_left
      · intro wS hSw
        go_simp
        try with_reducible rfl
      try simp only [List.getElem_toArray, List.getElem_cons_zero, List.getElem_cons_succ, Act.put, List.setIfInBounds_toArray, List.set_cons_zero, List.set_cons_succ]
      refine wpAnyH_done (by kernel_rfl) ?_ _
      go_upto_if 30 with fail
      go_cut [6] (fun v wx => v = .int .u8 (((Lin.dl a b).toNat : Nat) : Int) ∧ wx = wr.drew)
      case first =>
        by_cases hab : a = b
        · subst hab
          have hx : Hid (Lin.dl a a = 1) := Lib.hid (Lin.dl_same a)
          clear hd hm
          go_wp2
          go_meet
          exact ⟨by rw [hx.out]; rfl, rfl⟩
        · have hx : Hid (Lin.dl a b = 0) := Lib.hid (Lin.dl_ne hab)
          have hab1 : (((a : Nat) : Int) == ((b : Nat) : Int)) = false := by simp; omega
          clear hd hm
          go_wp2
          go_meet
          exact ⟨by rw [hx.out]; rfl, rfl⟩
      case rest =>
        obtain ⟨rfl, rfl⟩ := hcut
        generalize Lin.dl a b = x at *
        clear hd hm hw1 hw2
        have hlt2 := HII.out.blk.lt
        have hsz2 := HII.out.below.size
        generalize wr.drew = w2 at *
        go_wp2_with (at_builtin; go_loud (refine appB _ rfl (.tmp 32) (.tmp 34) rfl w.heap.size A' q c' (((Lin.oneL n).take q).map bv) rfl ((HII.out.own).alloc _) _ (some ⟨w2.heap.size, 0, none⟩) 1 1 [bv x] rfl rfl (Rd.new w2 _ _ _ rfl) one_byte (by omega) (by simp; omega) ?_; intro A3 c3 w3 ho3 hg3 hb3; have hk3 := HII.out.kept hg3 HII.out.blk (by decide); have hcm4 := hk3.cell 2; rw [show (mv (n : Int) (n : Int) A' q c')[2]? = some (.slice A' q c') from rfl] at hcm4; have hfm4 := hk3.frozen 2; have HI4 := Lib.hid (HII.out.push HX.out rfl ho3 hg3); have HZ4 := Lib.hid (HII.out.other hg3 HZZ.out (by decide) (by omega) (.slice A3 (q + 1) c3)); clear hk3 ho3 hg3 hb3))
        go_roundw
        case rel => exact ⟨q + 1, A3, c3, by go_num, hlq, HI4, HZ4⟩
        case measure => simp [intOf]; omega
    · obtain rfl : q = T := by omega
      have hb := hI.out.blk
      have hz := hZ.out
      have HII := Lib.hid hI.out
      have HNE : Hid ((Value.slice A' q c').ownBlock ≠ some w.heap.size) := Lib.hid fun he => by
        have := Ty.one (own_blockV HII.out.own he).1 hz.ty
        exact absurd this (by decide)
      clear hI hZ hlq
      go_wp2_with (first | (refine wpList_load_row rfl 24 (.tmp 4) rfl (w.heap.size + 1) rfl 24 (mv n n A' q c') (0, 0) _ hb Try.underlying24 rfl matInfo3 ?_) | (refine wpList_store_row rfl 24 (.tmp 2) (.tmp 37) rfl w.heap.size (mv n n A' q c') rfl rfl 24 #[.int .i64 0, .int .i64 0, .slice none 0 0] hz matInfo3 rfl (mv_one _ _ _ _ _) ?_))
      refine bodyPost_ret (results_mat2 (g := w.heap.size) (te := 24) (cs := mv n n A' q c') (fr := (0, 0)) rfl _ _ _ rfl (hz.row _) Try.underlying24 rfl matInfo3) rfl ⟨A', c', rfl, HTL.out, ?_, below_setRow HII.out.below (Nat.le_refl _) _⟩
      have ho := HII.out.own
      rw [List.take_of_length_le (by rw [HTL.out]; exact Nat.le_refl _)] at ho
      exact own_setRow ho HNE.out _
end Cib
