/- Order: the document's Minus. Printed by genU.py. -/
import Derived.Test.YtijinfmokbaahaaUniY
set_option linter.unusedVariables false
set_option linter.unusedSimpArgs false
set_option maxRecDepth 20000
namespace Cib
open Go Go.RowKit Go.Proofs
theorem wp_appS2 {w : World} {o : Oper} {a : Act} {K : Act → World → Prop} {Q : Exit → Act → World → Prop} (s x : Operand)
    (ho : o.op = .call { callee := .builtin .append, args := #[s, x], argTypes := #[32, 32] })
    (base : Nat) (A0 : Option Addr) (n0 c0 : Nat) (O : List Sn) (hs : a.eval s = .slice A0 n0 c0) (hown : Own w base A0 n0 c0 O)
    (B : Nat) (A : Option Addr) (m c : Nat) (M : List Sn) (hx : a.eval x = .slice A m c) (hm : M.length = m) (hr : Rd w B A (cellsL M)) (h63 : n0 + m ≤ 1000) (hbase : base ≤ w.heap.size)
    (h : ∀ A' c' w', Own w' base A' (n0 + m) c' (O ++ M) → w.grownBy w' (Value.slice A0 n0 c0).ownBlock → Below base w w' → K (a.put o.dst (.slice A' (n0 + m) c')) w') :
    o.wp Try.prog a w K Q := by
  obtain ⟨i0, hi, hz0, hz1, hz2⟩ := info_parts spanInfo3
  exact wp_appN s x _ ho base 2 26 i0 _ 32 Try.underlying32 hi hz0 hz1 hz2 rfl (by decide) A0 n0 c0 (cellsL O) hs hown B A m c (cellsL M) hx (by rw [cellsL_len, hm]) hr cellsL_cell (by unfold maxLen; omega) (by omega) hbase (fun A' c' w' h1 h2 h3 => h A' c' w' (by unfold Own; rw [cellsL_app]; exact h1) h2 h3)
set_option maxHeartbeats 4000000 in
theorem refMinusAl (w : World) (B n c : Nat) (A : Option Addr) (L : List Sn) (f t : ByteArray) (hL : L.length = n) (h : Rd w B A (cellsL L)) (hB : B ≤ w.heap.size) (hn : n ≤ 45) :
    Calls Try.prog 24 #[.slice A n c, .agg #[.string f, .string t]] w fun e w' =>
      ∃ (A' : Option Addr) (n' c' : Nat), e = .returned (.slice A' n' c') ∧ ∃ O : List Sn, Own w' w.heap.size A' n' c' O ∧ Ord.Canon O ∧ (∀ k, Ord.cov O k = (Ord.cov L k && !Ord.inn f t k)) ∧ n' ≤ 200 ∧ Below w.heap.size w w' := by
  obtain ⟨P, hP⟩ : ∃ P : ByteArray → Bool, P = fun k => Ord.cov L k && !Ord.inn f t k := ⟨_, rfl⟩
  have hPk : ∀ k, (Ord.cov L k && !Ord.inn f t k) = P k := fun k => by rw [hP]
  simp only [hPk]
  have HPK := Lib.hid hPk
  have HCV : Hid (∀ (key : ByteArray) (W : World), Below w.heap.size w W → _) := Lib.hid (fun key W (hW : Below w.heap.size w W) => refCoversAl W B n c A L key hL (h.below (hW.mono hB)) (Nat.le_trans hB hW.size) (by omega))
  have HIN : Hid (∀ (key : ByteArray) (W : World), _) := Lib.hid (fun key W => refIn20 (f, t) key W)
  unfold sp at HIN
  dsimp only at HIN
  have HLN := Lib.hid hL
  have HFLT : Hid (∀ E, Ord.Rise (Ord.tips (L ++ [(f, t)])) E → Ord.Flat P E) := Lib.hid (fun E hE => by rw [hP]; exact hE.flatM)
  have HR := Lib.hid (And.intro h hB)
  obtain ⟨i0, hi, hz0, hz1', hz2⟩ := info_parts spanInfo3
  have HI := Lib.hid hi
  clear hi h hL hB hP hPk
  go_enter Try.func24, Try.ntmps24
  go_upto_region 2 with fail
  have hbc : Below w.heap.size w (w.alloc (.cells #[.string f, .string t] 26)) := (Below.refl _ _).alloc (Nat.le_refl _) _
  have hkc : Blk (w.alloc (.cells #[.string f, .string t] 26)) w.heap.size 26 #[.string f, .string t] := Blk.new _ _ _
  generalize w.alloc (.cells #[.string f, .string t] 26) = w0 at hbc hkc ⊢
  have HBC := Lib.hid hbc
  have HKC := Lib.hid hkc
  obtain ⟨bS, hbS⟩ : ∃ bS, w.heap.size = bS := ⟨_, rfl⟩
  have HSB : Hid (∀ W, Below w0.heap.size w0 W → W.cell? ⟨bS, 0, none⟩ = some (.string f) ∧ W.cell? ⟨bS, 1, none⟩ = some (.string t)) := Lib.hid (fun W hW => by
    have hk := HKC.out.below hW HKC.out.lt
    rw [hbS] at hk
    exact ⟨hk.cell 0, hk.cell 1⟩)
  have HRL : Hid (∀ W, Below w0.heap.size w0 W → Rd W B A (cellsL L)) := Lib.hid (fun W hW => HR.out.1.below ((HBC.out.via hW).mono HR.out.2))
  have HEN : Hid (∀ (A5 : Option Addr) (c5 : Nat) (w5 : World), Own w5 w0.heap.size A5 (n + 1) c5 (L ++ [(f, t)]) → _) := Lib.hid (fun A5 c5 w5 (ho : Own w5 w0.heap.size A5 (n + 1) c5 (L ++ [(f, t)])) => endsAl w5 w5.heap.size (n + 1) c5 A5 (L ++ [(f, t)]) ho.len ho.rd (Nat.le_refl _) (by omega))
  simp only [hbS]
  clear hbc hkc hbS
  go_cut [6] from 10 to 67 (fun x6 wx => ∃ (AE : Option Addr) (m cE : Nat) (E : List ByteArray), x6 = .slice AE m cE ∧ Hid (OwnT wx w0.heap.size AE m cE E) ∧ Hid (Ord.Rise (Ord.tips (L ++ [(f, t)])) E) ∧ Hid (Below w0.heap.size w0 wx))
  case first =>
    clear HCV HIN HFLT HR HI hz0 hz1' hz2 HPK
    go_wp2_with fail
    refine wp_region_held_drew (S := (fun wQq => Below w0.heap.size w0 wQq)) (by kernel_rfl) ((below_drewN (Below.refl w0.heap.size w0) 1)) (fun _ => ?_)
    refine wpAnyH_take (i := 1) (v := ?_) rfl (by kernel_rfl) (by kernel_rfl) (by kernel_rfl) (fun _ _ _ h => h) (Or.inl ⟨by rfl, ?_⟩) ((below_drewN (Below.refl w0.heap.size w0) 1)) ?_
    rotate_left
    · intro wS hSw
      go_simp
      try with_reducible rfl
    try simp only [List.getElem_toArray, List.getElem_cons_zero, List.getElem_cons_succ, Act.put, List.setIfInBounds_toArray, List.set_cons_zero, List.set_cons_succ]
    refine wpAnyH_take (i := 3) (v := ?_) rfl (by kernel_rfl) (by kernel_rfl) (by kernel_rfl) (fun _ _ _ h => h) (Or.inl ⟨by rfl, ?_⟩) ((below_drewN (Below.refl w0.heap.size w0) 1)) ?_
    rotate_left
    · intro wS hSw
      have hcv := (HSB.out _ hSw).1
      have hcv2 := (HSB.out _ hSw).2
      go_simp
      try with_reducible rfl
    try simp only [List.getElem_toArray, List.getElem_cons_zero, List.getElem_cons_succ, Act.put, List.setIfInBounds_toArray, List.set_cons_zero, List.set_cons_succ]
    refine wpAnyH_ready (rs := [0, 4]) (by kernel_rfl) (by simp) ?_
    refine AllReadyH.cons rfl (fun K hK => ?_) (AllReadyH.cons rfl (fun K hK => ?_) AllReadyH.nil)
    · go_simp
      have HB0 : Hid (Below w0.heap.size w0 (w0.drew.alloc (.cells #[] 26))) := Lib.hid ((below_drewN (Below.refl w0.heap.size w0) 1).alloc (Nat.le_refl _) _)
      have HO0 : Hid (Own (w0.drew.alloc (.cells #[] 26)) w0.heap.size (some ⟨w0.heap.size, 0, none⟩) 0 0 []) := Lib.hid (World.ownsRow_lit w0.drew #[] 0 (Nat.le_refl _) (by decide) rfl)
      refine hK.out _ _ HB0.out (fun _ => ?_)
      clear hK K
      try simp only [List.getElem_toArray, List.getElem_cons_zero, List.getElem_cons_succ, Act.put, List.setIfInBounds_toArray, List.set_cons_zero, List.set_cons_succ]
      refine wpAnyH_ready (rs := [2, 4]) (by kernel_rfl) (by simp) ?_
      refine AllReadyH.cons rfl (fun K hK => ?_) (AllReadyH.cons rfl (fun K hK => ?_) AllReadyH.nil)
      · refine wp_appS2 (.tmp 10) (.tmp 11) rfl w0.heap.size (some ⟨w0.heap.size, 0, none⟩) 0 0 [] rfl HO0.out _ A n c L rfl HLN.out (HRL.out _ HB0.out) (by omega) HB0.out.size ?_
        intro A2 c2 w2 ho2 hg2 hb2
        simp only [Nat.zero_add, List.nil_append] at ho2 ⊢
        have HB2 := Lib.hid (HB0.out.trans hb2)
        have HO2 := Lib.hid ho2
        clear ho2 hg2 hb2
        refine hK.out _ _ HB2.out (fun _ => ?_)
        clear hK K
        try simp only [List.getElem_toArray, List.getElem_cons_zero, List.getElem_cons_succ, Act.put, List.setIfInBounds_toArray, List.set_cons_zero, List.set_cons_succ]
        refine wpAnyH_ready (rs := [4]) (by kernel_rfl) (by simp) ?_
        refine AllReadyH.cons rfl (fun K hK => ?_) AllReadyH.nil
        go_simp
        have HB4 : Hid (Below w0.heap.size w0 (w2.alloc (.cells #[.string f, .string t] 26))) := Lib.hid (HB2.out.alloc HB2.out.size _)
        have HO4 : Hid (Own (w2.alloc (.cells #[.string f, .string t] 26)) w0.heap.size A2 n c2 L) := Lib.hid (HO2.out.via ((Below.refl _ _).alloc (Nat.le_refl _) _))
        have HX4 : Hid (Blk (w2.alloc (.cells #[.string f, .string t] 26)) w2.heap.size 26 (cellsL [(f, t)]).toArray) := Lib.hid (Blk.new _ _ _)
        generalize w2.heap.size = q4 at HX4 ⊢
        refine hK.out _ _ HB4.out (fun _ => ?_)
        clear hK K
        try simp only [List.getElem_toArray, List.getElem_cons_zero, List.getElem_cons_succ, Act.put, List.setIfInBounds_toArray, List.set_cons_zero, List.set_cons_succ]
        refine wpAnyH_ready (rs := [5]) (by kernel_rfl) (by simp) ?_
        refine AllReadyH.cons rfl (fun K hK => ?_) AllReadyH.nil
        refine wp_appS2 (.tmp 12) (.tmp 14) rfl w0.heap.size A2 n c2 L rfl HO4.out (q4 + 1) (some ⟨q4, 0, none⟩) 1 1 [(f, t)] rfl rfl (Rd.blk HX4.out) (by omega) HB4.out.size ?_
        intro A5 c5 w5 ho5 hg5 hb5
        have HB5 := Lib.hid (HB4.out.trans hb5)
        have HO5 := Lib.hid ho5
        clear ho5 hg5 hb5
        refine hK.out _ _ HB5.out (fun _ => ?_)
        clear hK K
        try simp only [List.getElem_toArray, List.getElem_cons_zero, List.getElem_cons_succ, Act.put, List.setIfInBounds_toArray, List.set_cons_zero, List.set_cons_succ]
        refine wpAnyH_ready (rs := [6]) (by kernel_rfl) (by simp) ?_
        refine AllReadyH.cons rfl (fun K hK => ?_) AllReadyH.nil
        go_simp
        refine (HEN.out A5 c5 w5 HO5.out).mono ?_
        rintro e w3 ⟨AE, m, cE, rfl, E, hoE, hrise, hb3⟩
        have HB3 := Lib.hid (HB5.out.via hb3)
        have HRI := Lib.hid hrise
        have HOE := Lib.hid (hoE.lower HB5.out.size)
        clear hoE hrise hb3
        refine hK.out _ _ HB3.out (fun _ => ?_)
        clear hK K
        try simp only [List.getElem_toArray, List.getElem_cons_zero, List.getElem_cons_succ, Act.put, List.setIfInBounds_toArray, List.set_cons_zero, List.set_cons_succ]
        refine wpAnyH_take (i := 7) (v := ?_) rfl (by kernel_rfl) (by kernel_rfl) (by kernel_rfl) (fun _ _ _ h => h) (Or.inl ⟨by rfl, ?_⟩) HB3.out ?_
        rotate_left
        · intro wS hSw
          go_simp
          try with_reducible rfl
        try simp only [List.getElem_toArray, List.getElem_cons_zero, List.getElem_cons_succ, Act.put, List.setIfInBounds_toArray, List.set_cons_zero, List.set_cons_succ]
        refine wpAnyH_done (by kernel_rfl) ?_ _
        try go_wp2_with fail
        go_meet
        exact ⟨AE, m, cE, E, rfl, HOE, HRI, HB3⟩
      · go_simp
        have HBy : Hid (Below w0.heap.size w0 ((w0.drew.alloc (.cells #[] 26)).alloc (.cells #[.string f, .string t] 26))) := Lib.hid (HB0.out.alloc HB0.out.size _)
        have HOy : Hid (Own ((w0.drew.alloc (.cells #[] 26)).alloc (.cells #[.string f, .string t] 26)) w0.heap.size (some ⟨w0.heap.size, 0, none⟩) 0 0 []) := Lib.hid (HO0.out.via ((Below.refl _ _).alloc (Nat.le_refl _) _))
        have HXy : Hid (Blk ((w0.drew.alloc (.cells #[] 26)).alloc (.cells #[.string f, .string t] 26)) (w0.heap.size + 1) 26 (cellsL [(f, t)]).toArray) := Lib.hid (by
          have := Blk.new (w0.drew.alloc (.cells #[] 26)) 26 (cellsL [(f, t)]).toArray
          have e : (w0.drew.alloc (.cells #[] 26)).heap.size = w0.heap.size + 1 := by simp
          rw [e] at this
          exact this)
        obtain ⟨q4, hq4⟩ : ∃ q4, w0.heap.size + 1 = q4 := ⟨_, rfl⟩
        have HQ4 : Hid (q4 ≠ w0.heap.size) := Lib.hid (by omega)
        rw [hq4] at HXy
        simp only [hq4]
        clear hq4
        refine hK.out _ _ HBy.out (fun _ => ?_)
        clear hK K
        try simp only [List.getElem_toArray, List.getElem_cons_zero, List.getElem_cons_succ, Act.put, List.setIfInBounds_toArray, List.set_cons_zero, List.set_cons_succ]
        refine wpAnyH_ready (rs := [2]) (by kernel_rfl) (by simp) ?_
        refine AllReadyH.cons rfl (fun K hK => ?_) AllReadyH.nil
        refine wp_appS2 (.tmp 10) (.tmp 11) rfl w0.heap.size (some ⟨w0.heap.size, 0, none⟩) 0 0 [] rfl HOy.out _ A n c L rfl HLN.out (HRL.out _ HBy.out) (by omega) HBy.out.size ?_
        intro A2 c2 w2 ho2 hg2 hb2
        simp only [Nat.zero_add, List.nil_append] at ho2 ⊢
        have HB4 := Lib.hid (HBy.out.trans hb2)
        have HO4 := Lib.hid ho2
        have HX4 : Hid (Blk w2 q4 26 (cellsL [(f, t)]).toArray) := Lib.hid ((hg2.block q4 HXy.out.lt (fun e => HQ4.out (by injection e))).trans HXy.out)
        clear ho2 hg2 hb2
        refine hK.out _ _ HB4.out (fun _ => ?_)
        clear hK K
        try simp only [List.getElem_toArray, List.getElem_cons_zero, List.getElem_cons_succ, Act.put, List.setIfInBounds_toArray, List.set_cons_zero, List.set_cons_succ]
        refine wpAnyH_ready (rs := [5]) (by kernel_rfl) (by simp) ?_
        refine AllReadyH.cons rfl (fun K hK => ?_) AllReadyH.nil
        refine wp_appS2 (.tmp 12) (.tmp 14) rfl w0.heap.size A2 n c2 L rfl HO4.out (q4 + 1) (some ⟨q4, 0, none⟩) 1 1 [(f, t)] rfl rfl (Rd.blk HX4.out) (by omega) HB4.out.size ?_
        intro A5 c5 w5 ho5 hg5 hb5
        have HB5 := Lib.hid (HB4.out.trans hb5)
        have HO5 := Lib.hid ho5
        clear ho5 hg5 hb5
        refine hK.out _ _ HB5.out (fun _ => ?_)
        clear hK K
        try simp only [List.getElem_toArray, List.getElem_cons_zero, List.getElem_cons_succ, Act.put, List.setIfInBounds_toArray, List.set_cons_zero, List.set_cons_succ]
        refine wpAnyH_ready (rs := [6]) (by kernel_rfl) (by simp) ?_
        refine AllReadyH.cons rfl (fun K hK => ?_) AllReadyH.nil
        go_simp
        refine (HEN.out A5 c5 w5 HO5.out).mono ?_
        rintro e w3 ⟨AE, m, cE, rfl, E, hoE, hrise, hb3⟩
        have HB3 := Lib.hid (HB5.out.via hb3)
        have HRI := Lib.hid hrise
        have HOE := Lib.hid (hoE.lower HB5.out.size)
        clear hoE hrise hb3
        refine hK.out _ _ HB3.out (fun _ => ?_)
        clear hK K
        try simp only [List.getElem_toArray, List.getElem_cons_zero, List.getElem_cons_succ, Act.put, List.setIfInBounds_toArray, List.set_cons_zero, List.set_cons_succ]
        refine wpAnyH_take (i := 7) (v := ?_) rfl (by kernel_rfl) (by kernel_rfl) (by kernel_rfl) (fun _ _ _ h => h) (Or.inl ⟨by rfl, ?_⟩) HB3.out ?_
        rotate_left
        · intro wS hSw
          go_simp
          try with_reducible rfl
        try simp only [List.getElem_toArray, List.getElem_cons_zero, List.getElem_cons_succ, Act.put, List.setIfInBounds_toArray, List.set_cons_zero, List.set_cons_succ]
        refine wpAnyH_done (by kernel_rfl) ?_ _
        try go_wp2_with fail
        go_meet
        exact ⟨AE, m, cE, E, rfl, HOE, HRI, HB3⟩
    · go_simp
      have HBz : Hid (Below w0.heap.size w0 (w0.drew.alloc (.cells #[.string f, .string t] 26))) := Lib.hid ((below_drewN (Below.refl w0.heap.size w0) 1).alloc (Nat.le_refl _) _)
      have HXz : Hid (Blk (w0.drew.alloc (.cells #[.string f, .string t] 26)) w0.heap.size 26 (cellsL [(f, t)]).toArray) := Lib.hid (Blk.new _ _ _)
      obtain ⟨q4, hq4⟩ : ∃ q4, w0.heap.size = q4 := ⟨_, rfl⟩
      have HQ4 : Hid (q4 = w0.heap.size) := Lib.hid hq4.symm
      have HXz' : Hid (Blk (w0.drew.alloc (.cells #[.string f, .string t] 26)) q4 26 (cellsL [(f, t)]).toArray) := Lib.hid (hq4 ▸ HXz.out)
      clear HXz
      simp only [hq4]
      clear hq4
      refine hK.out _ _ HBz.out (fun _ => ?_)
      clear hK K
      try simp only [List.getElem_toArray, List.getElem_cons_zero, List.getElem_cons_succ, Act.put, List.setIfInBounds_toArray, List.set_cons_zero, List.set_cons_succ]
      refine wpAnyH_ready (rs := [0]) (by kernel_rfl) (by simp) ?_
      refine AllReadyH.cons rfl (fun K hK => ?_) AllReadyH.nil
      go_simp
      have HBy : Hid (Below w0.heap.size w0 ((w0.drew.alloc (.cells #[.string f, .string t] 26)).alloc (.cells #[] 26))) := Lib.hid (HBz.out.alloc HBz.out.size _)
      have HOy : Hid (Own ((w0.drew.alloc (.cells #[.string f, .string t] 26)).alloc (.cells #[] 26)) w0.heap.size (some ⟨w0.heap.size + 1, 0, none⟩) 0 0 []) := Lib.hid (by
        have := World.ownsRow_lit (base := w0.heap.size) (e := 26) (size := 2) (w0.drew.alloc (.cells #[.string f, .string t] 26)) #[] 0 HBz.out.size (by decide) rfl
        have e : (w0.drew.alloc (.cells #[.string f, .string t] 26)).heap.size = w0.heap.size + 1 := by simp
        rw [e] at this
        exact this)
      have HXy : Hid (Blk ((w0.drew.alloc (.cells #[.string f, .string t] 26)).alloc (.cells #[] 26)) q4 26 (cellsL [(f, t)]).toArray) := Lib.hid (HXz'.out.alloc _)
      refine hK.out _ _ HBy.out (fun _ => ?_)
      clear hK K
      try simp only [List.getElem_toArray, List.getElem_cons_zero, List.getElem_cons_succ, Act.put, List.setIfInBounds_toArray, List.set_cons_zero, List.set_cons_succ]
      refine wpAnyH_ready (rs := [2]) (by kernel_rfl) (by simp) ?_
      refine AllReadyH.cons rfl (fun K hK => ?_) AllReadyH.nil
      refine wp_appS2 (.tmp 10) (.tmp 11) rfl w0.heap.size (some ⟨w0.heap.size + 1, 0, none⟩) 0 0 [] rfl HOy.out _ A n c L rfl HLN.out (HRL.out _ HBy.out) (by omega) HBy.out.size ?_
      intro A2 c2 w2 ho2 hg2 hb2
      simp only [Nat.zero_add, List.nil_append] at ho2 ⊢
      have HB4 := Lib.hid (HBy.out.trans hb2)
      have HO4 := Lib.hid ho2
      have HX4 : Hid (Blk w2 q4 26 (cellsL [(f, t)]).toArray) := Lib.hid ((hg2.block q4 HXy.out.lt (fun e => by have h1 := HQ4.out; have h2 : q4 = w0.heap.size + 1 := (by injection e); omega)).trans HXy.out)
      clear ho2 hg2 hb2
      refine hK.out _ _ HB4.out (fun _ => ?_)
      clear hK K
      try simp only [List.getElem_toArray, List.getElem_cons_zero, List.getElem_cons_succ, Act.put, List.setIfInBounds_toArray, List.set_cons_zero, List.set_cons_succ]
      refine wpAnyH_ready (rs := [5]) (by kernel_rfl) (by simp) ?_
      refine AllReadyH.cons rfl (fun K hK => ?_) AllReadyH.nil
      refine wp_appS2 (.tmp 12) (.tmp 14) rfl w0.heap.size A2 n c2 L rfl HO4.out (q4 + 1) (some ⟨q4, 0, none⟩) 1 1 [(f, t)] rfl rfl (Rd.blk HX4.out) (by omega) HB4.out.size ?_
      intro A5 c5 w5 ho5 hg5 hb5
      have HB5 := Lib.hid (HB4.out.trans hb5)
      have HO5 := Lib.hid ho5
      clear ho5 hg5 hb5
      refine hK.out _ _ HB5.out (fun _ => ?_)
      clear hK K
      try simp only [List.getElem_toArray, List.getElem_cons_zero, List.getElem_cons_succ, Act.put, List.setIfInBounds_toArray, List.set_cons_zero, List.set_cons_succ]
      refine wpAnyH_ready (rs := [6]) (by kernel_rfl) (by simp) ?_
      refine AllReadyH.cons rfl (fun K hK => ?_) AllReadyH.nil
      go_simp
      refine (HEN.out A5 c5 w5 HO5.out).mono ?_
      rintro e w3 ⟨AE, m, cE, rfl, E, hoE, hrise, hb3⟩
      have HB3 := Lib.hid (HB5.out.via hb3)
      have HRI := Lib.hid hrise
      have HOE := Lib.hid (hoE.lower HB5.out.size)
      clear hoE hrise hb3
      refine hK.out _ _ HB3.out (fun _ => ?_)
      clear hK K
      try simp only [List.getElem_toArray, List.getElem_cons_zero, List.getElem_cons_succ, Act.put, List.setIfInBounds_toArray, List.set_cons_zero, List.set_cons_succ]
      refine wpAnyH_take (i := 7) (v := ?_) rfl (by kernel_rfl) (by kernel_rfl) (by kernel_rfl) (fun _ _ _ h => h) (Or.inl ⟨by rfl, ?_⟩) HB3.out ?_
      rotate_left
      · intro wS hSw
        go_simp
        try with_reducible rfl
      try simp only [List.getElem_toArray, List.getElem_cons_zero, List.getElem_cons_succ, Act.put, List.setIfInBounds_toArray, List.set_cons_zero, List.set_cons_succ]
      refine wpAnyH_done (by kernel_rfl) ?_ _
      try go_wp2_with fail
      go_meet
      exact ⟨AE, m, cE, E, rfl, HOE, HRI, HB3⟩
  case rest =>
    obtain ⟨AE, m, cE, E, rfl, HOE, HRI, HB3⟩ := hcut
    obtain ⟨w3, rfl⟩ : ∃ w3, w3 = wc := ⟨_, rfl⟩
    have hEm : E.length = m := HOE.out.len
    have HEM := Lib.hid hEm
    have hm200 : m ≤ 120 := by
      have h1 := HRI.out.len
      rw [Ord.tips_len, List.length_append] at h1
      have := HLN.out
      simp at h1
      omega
    have HFL : Hid (Ord.Flat P E) := Lib.hid (HFLT.out E HRI.out)
    have HB03 : Hid (Below w.heap.size w w3) := Lib.hid (HBC.out.via HB3.out)
    have HBE : Hid (w0.heap.size ≤ w3.heap.size) := Lib.hid HB3.out.size
    clear hEm HFLT HEN HRL HR HKC HBC
    go_wp2
    go_loopw [5, 7, 8] (fun x5 x7 x8 wx => ∃ (i k c2 : Nat) (b : Bool) (A2 : Option Addr) (O : List Sn), x8 = .int .i64 i ∧ x7 = .bool b ∧ x5 = .slice A2 k c2 ∧ i ≤ m ∧ Hid (Ord.Scn P E i b O) ∧ Hid (Own wx w3.heap.size A2 k c2 O) ∧ Hid (Below w3.heap.size w3 wx)) (fun _ _ x8 _ => m - (Go.RowKit.intOf x8).toNat)
    case atStart => exact ⟨0, 0, 0, false, none, [], rfl, rfl, rfl, Nat.zero_le _, Lib.hid (Ord.Scn.start HRI.out), Lib.hid Own.nil, Lib.hid (Below.refl _ _)⟩
    case round =>
      obtain ⟨i, k, c2, b, A2, O, rfl, rfl, rfl, him, HS, HO, HB⟩ := hrel
      by_cases hlt : i < m
      · have hiE : i < E.length := by rw [HEM.out]; exact hlt
        obtain ⟨gE, rfl, _, hgE3, hdel⟩ := HOE.out.at hiE
        clear hdel
        have HBW : Hid (Below w.heap.size w wr) := Lib.hid (HB03.out.trans (HB.out.mono HB03.out.size))
        have HCE : Hid (∀ W, Below wr.heap.size wr W → W.cell? ⟨gE, i, none⟩ = some (.string E[i])) := Lib.hid (fun W hW => by
          obtain ⟨g', e, _, _, h1⟩ := (HOE.out.via (HB.out.via hW)).at hiE
          injection e with e
          injection e with e
          subst e
          exact h1)
        have HSW : Hid (∀ W, Below wr.heap.size wr W → W.cell? ⟨bS, 0, none⟩ = some (.string f) ∧ W.cell? ⟨bS, 1, none⟩ = some (.string t)) := Lib.hid (fun W hW => HSB.out W (HB3.out.via (HB.out.via hW)))
        have HA : Hid (E[i]? = some E[i]) := Lib.hid (List.getElem?_eq_getElem hiE)
        generalize E[i] = a at HCE HA
        have hpa := HPK.out a
        obtain ⟨r1, hr1⟩ : ∃ r, Ord.cov L a = r := ⟨_, rfl⟩
        obtain ⟨r2, hr2⟩ : ∃ r, Ord.inn f t a = r := ⟨_, rfl⟩
        have HC : Hid (∀ W, Below wr.heap.size wr W → _) := Lib.hid (fun W (hW : Below wr.heap.size wr W) => HCV.out a W (HBW.out.via hW))
        have HI2 := Lib.hid (HIN.out a)
        rw [hr1] at HC
        rw [hr2] at HI2
        obtain ⟨R, hR⟩ : ∃ R, P a = R := ⟨_, rfl⟩
        rw [hr1, hr2, hR] at hpa
        have HP := Lib.hid hR
        have hk100 : k ≤ 120 := by
          have h1 := HS.out.len
          have h2 := HO.out.len
          omega
        have hgw : gE < wr.heap.size := by have := HB.out.size; omega
        clear hR hiE hr1 hr2
        go_upto_region 7 with fail
        go_cut [9] from 23 to 66 (fun x9 wx => x9 = .bool R ∧ Hid (Below wr.heap.size wr wx))
        case first =>
          clear HS HO HB HBW HOE HRI HFL HA HP HB3 HB03 HSB
          cases r1
          · obtain rfl : R = false := by rw [← hpa]; rfl
            clear hpa
            go_wp2_with fail
            refine wp_region_held_drew (S := (fun wQq => Below wr.heap.size wr wQq)) (by kernel_rfl) ((below_drewN (Below.refl wr.heap.size wr) 1)) (fun _ => ?_)
            refine wpAnyH_take (i := 0) (v := ?_) rfl (by kernel_rfl) (by kernel_rfl) (by kernel_rfl) (fun _ _ _ h => h) (Or.inl ⟨by rfl, ?_⟩) ((below_drewN (Below.refl wr.heap.size wr) 1)) ?_
            rotate_left
            · intro wS hSw
              go_simp
              try with_reducible rfl
            try simp only [List.getElem_toArray, List.getElem_cons_zero, List.getElem_cons_succ, Act.put, List.setIfInBounds_toArray, List.set_cons_zero, List.set_cons_succ]
            refine wpAnyH_take (i := 1) (v := ?_) rfl (by kernel_rfl) (by kernel_rfl) (by kernel_rfl) (fun _ _ _ h => h) (Or.inl ⟨by rfl, ?_⟩) ((below_drewN (Below.refl wr.heap.size wr) 1)) ?_
            rotate_left
            · intro wS hSw
              go_simp
              try with_reducible rfl
            try simp only [List.getElem_toArray, List.getElem_cons_zero, List.getElem_cons_succ, Act.put, List.setIfInBounds_toArray, List.set_cons_zero, List.set_cons_succ]
            refine wpAnyH_take (i := 2) (v := ?_) rfl (by kernel_rfl) (by kernel_rfl) (by kernel_rfl) (fun _ _ _ h => h) (Or.inl ⟨by rfl, ?_⟩) ((below_drewN (Below.refl wr.heap.size wr) 1)) ?_
            rotate_left
            · intro wS hSw
              go_simp
              try with_reducible rfl
            try simp only [List.getElem_toArray, List.getElem_cons_zero, List.getElem_cons_succ, Act.put, List.setIfInBounds_toArray, List.set_cons_zero, List.set_cons_succ]
            refine wpAnyH_take (i := 3) (v := ?_) rfl (by kernel_rfl) (by kernel_rfl) (by kernel_rfl) (fun _ _ _ h => h) (Or.inl ⟨by rfl, ?_⟩) ((below_drewN (Below.refl wr.heap.size wr) 1)) ?_
            rotate_left
            · intro wS hSw
              go_simp
              try with_reducible rfl
            try simp only [List.getElem_toArray, List.getElem_cons_zero, List.getElem_cons_succ, Act.put, List.setIfInBounds_toArray, List.set_cons_zero, List.set_cons_succ]
            refine wpAnyH_take (i := 4) (v := ?_) rfl (by kernel_rfl) (by kernel_rfl) (by kernel_rfl) (fun _ _ _ h => h) (Or.inl ⟨by rfl, ?_⟩) ((below_drewN (Below.refl wr.heap.size wr) 1)) ?_
            rotate_left
            · intro wS hSw
              have hcv := HCE.out _ hSw
              go_simp
              try with_reducible rfl
            try simp only [List.getElem_toArray, List.getElem_cons_zero, List.getElem_cons_succ, Act.put, List.setIfInBounds_toArray, List.set_cons_zero, List.set_cons_succ]
            refine wpAnyH_ready (rs := [5]) (by kernel_rfl) (by simp) ?_
            refine AllReadyH.cons rfl (fun K hK => ?_) AllReadyH.nil
            go_simp
            refine (HC.out _ (below_drewN (Below.refl wr.heap.size wr) 1)).mono ?_
            rintro e w5 ⟨rfl, hb5⟩
            have HB5 := Lib.hid ((below_drewN (Below.refl wr.heap.size wr) 1).via hb5)
            clear hb5
            refine hK.out _ _ HB5.out (fun _ => ?_)
            clear hK K
            try simp only [List.getElem_toArray, List.getElem_cons_zero, List.getElem_cons_succ, Act.put, List.setIfInBounds_toArray, List.set_cons_zero, List.set_cons_succ]
            refine wpAnyH_take (i := 6) (v := ?_) rfl (by kernel_rfl) (by kernel_rfl) (by kernel_rfl) (fun _ _ _ h => h) (Or.inl ⟨by rfl, ?_⟩) HB5.out ?_
            rotate_left
            · intro wS hSw
              go_simp
              try with_reducible rfl
            try simp only [List.getElem_toArray, List.getElem_cons_zero, List.getElem_cons_succ, Act.put, List.setIfInBounds_toArray, List.set_cons_zero, List.set_cons_succ]
            refine wpAnyH_take (i := 7) (v := undef) rfl (by kernel_rfl) (by kernel_rfl) (by kernel_rfl) (fun _ _ _ h => h) (Or.inr ⟨by rfl, rfl⟩) HB5.out ?_
            try simp only [List.getElem_toArray, List.getElem_cons_zero, List.getElem_cons_succ, Act.put, List.setIfInBounds_toArray, List.set_cons_zero, List.set_cons_succ]
            refine wpAnyH_take (i := 8) (v := undef) rfl (by kernel_rfl) (by kernel_rfl) (by kernel_rfl) (fun _ _ _ h => h) (Or.inr ⟨by rfl, rfl⟩) HB5.out ?_
            try simp only [List.getElem_toArray, List.getElem_cons_zero, List.getElem_cons_succ, Act.put, List.setIfInBounds_toArray, List.set_cons_zero, List.set_cons_succ]
            refine wpAnyH_take (i := 9) (v := undef) rfl (by kernel_rfl) (by kernel_rfl) (by kernel_rfl) (fun _ _ _ h => h) (Or.inr ⟨by rfl, rfl⟩) HB5.out ?_
            try simp only [List.getElem_toArray, List.getElem_cons_zero, List.getElem_cons_succ, Act.put, List.setIfInBounds_toArray, List.set_cons_zero, List.set_cons_succ]
            refine wpAnyH_take (i := 10) (v := undef) rfl (by kernel_rfl) (by kernel_rfl) (by kernel_rfl) (fun _ _ _ h => h) (Or.inr ⟨by rfl, rfl⟩) HB5.out ?_
            try simp only [List.getElem_toArray, List.getElem_cons_zero, List.getElem_cons_succ, Act.put, List.setIfInBounds_toArray, List.set_cons_zero, List.set_cons_succ]
            refine wpAnyH_take (i := 11) (v := undef) rfl (by kernel_rfl) (by kernel_rfl) (by kernel_rfl) (fun _ _ _ h => h) (Or.inr ⟨by rfl, rfl⟩) HB5.out ?_
            try simp only [List.getElem_toArray, List.getElem_cons_zero, List.getElem_cons_succ, Act.put, List.setIfInBounds_toArray, List.set_cons_zero, List.set_cons_succ]
            refine wpAnyH_take (i := 12) (v := undef) rfl (by kernel_rfl) (by kernel_rfl) (by kernel_rfl) (fun _ _ _ h => h) (Or.inr ⟨by rfl, rfl⟩) HB5.out ?_
            try simp only [List.getElem_toArray, List.getElem_cons_zero, List.getElem_cons_succ, Act.put, List.setIfInBounds_toArray, List.set_cons_zero, List.set_cons_succ]
            refine wpAnyH_take (i := 13) (v := undef) rfl (by kernel_rfl) (by kernel_rfl) (by kernel_rfl) (fun _ _ _ h => h) (Or.inr ⟨by rfl, rfl⟩) HB5.out ?_
            try simp only [List.getElem_toArray, List.getElem_cons_zero, List.getElem_cons_succ, Act.put, List.setIfInBounds_toArray, List.set_cons_zero, List.set_cons_succ]
            refine wpAnyH_take (i := 14) (v := ?_) rfl (by kernel_rfl) (by kernel_rfl) (by kernel_rfl) (fun _ _ _ h => h) (Or.inl ⟨by rfl, ?_⟩) HB5.out ?_
            rotate_left
            · intro wS hSw
              go_simp
              try with_reducible rfl
            try simp only [List.getElem_toArray, List.getElem_cons_zero, List.getElem_cons_succ, Act.put, List.setIfInBounds_toArray, List.set_cons_zero, List.set_cons_succ]
            refine wpAnyH_take (i := 15) (v := ?_) rfl (by kernel_rfl) (by kernel_rfl) (by kernel_rfl) (fun _ _ _ h => h) (Or.inl ⟨by rfl, ?_⟩) HB5.out ?_
            rotate_left
            · intro wS hSw
              go_simp
              try with_reducible rfl
            try simp only [List.getElem_toArray, List.getElem_cons_zero, List.getElem_cons_succ, Act.put, List.setIfInBounds_toArray, List.set_cons_zero, List.set_cons_succ]
            refine wpAnyH_done (by kernel_rfl) ?_ _
            try go_wp2_with fail
            go_meet
            exact ⟨rfl, HB5⟩
          · have hpb : (!r2) = R := by rw [← hpa]; rfl
            clear hpa
            subst hpb
            go_wp2_with fail
            refine wp_region_held_drew (S := (fun wQq => Below wr.heap.size wr wQq)) (by kernel_rfl) ((below_drewN (Below.refl wr.heap.size wr) 1)) (fun _ => ?_)
            refine wpAnyH_take (i := 0) (v := ?_) rfl (by kernel_rfl) (by kernel_rfl) (by kernel_rfl) (fun _ _ _ h => h) (Or.inl ⟨by rfl, ?_⟩) ((below_drewN (Below.refl wr.heap.size wr) 1)) ?_
            rotate_left
            · intro wS hSw
              go_simp
              try with_reducible rfl
            try simp only [List.getElem_toArray, List.getElem_cons_zero, List.getElem_cons_succ, Act.put, List.setIfInBounds_toArray, List.set_cons_zero, List.set_cons_succ]
            refine wpAnyH_take (i := 1) (v := ?_) rfl (by kernel_rfl) (by kernel_rfl) (by kernel_rfl) (fun _ _ _ h => h) (Or.inl ⟨by rfl, ?_⟩) ((below_drewN (Below.refl wr.heap.size wr) 1)) ?_
            rotate_left
            · intro wS hSw
              go_simp
              try with_reducible rfl
            try simp only [List.getElem_toArray, List.getElem_cons_zero, List.getElem_cons_succ, Act.put, List.setIfInBounds_toArray, List.set_cons_zero, List.set_cons_succ]
            refine wpAnyH_take (i := 2) (v := ?_) rfl (by kernel_rfl) (by kernel_rfl) (by kernel_rfl) (fun _ _ _ h => h) (Or.inl ⟨by rfl, ?_⟩) ((below_drewN (Below.refl wr.heap.size wr) 1)) ?_
            rotate_left
            · intro wS hSw
              go_simp
              try with_reducible rfl
            try simp only [List.getElem_toArray, List.getElem_cons_zero, List.getElem_cons_succ, Act.put, List.setIfInBounds_toArray, List.set_cons_zero, List.set_cons_succ]
            refine wpAnyH_take (i := 3) (v := ?_) rfl (by kernel_rfl) (by kernel_rfl) (by kernel_rfl) (fun _ _ _ h => h) (Or.inl ⟨by rfl, ?_⟩) ((below_drewN (Below.refl wr.heap.size wr) 1)) ?_
            rotate_left
            · intro wS hSw
              go_simp
              try with_reducible rfl
            try simp only [List.getElem_toArray, List.getElem_cons_zero, List.getElem_cons_succ, Act.put, List.setIfInBounds_toArray, List.set_cons_zero, List.set_cons_succ]
            refine wpAnyH_take (i := 4) (v := ?_) rfl (by kernel_rfl) (by kernel_rfl) (by kernel_rfl) (fun _ _ _ h => h) (Or.inl ⟨by rfl, ?_⟩) ((below_drewN (Below.refl wr.heap.size wr) 1)) ?_
            rotate_left
            · intro wS hSw
              have hcv := HCE.out _ hSw
              go_simp
              try with_reducible rfl
            try simp only [List.getElem_toArray, List.getElem_cons_zero, List.getElem_cons_succ, Act.put, List.setIfInBounds_toArray, List.set_cons_zero, List.set_cons_succ]
            refine wpAnyH_ready (rs := [5]) (by kernel_rfl) (by simp) ?_
            refine AllReadyH.cons rfl (fun K hK => ?_) AllReadyH.nil
            go_simp
            refine (HC.out _ (below_drewN (Below.refl wr.heap.size wr) 1)).mono ?_
            rintro e w5 ⟨rfl, hb5⟩
            have HB5 := Lib.hid ((below_drewN (Below.refl wr.heap.size wr) 1).via hb5)
            clear hb5
            refine hK.out _ _ HB5.out (fun _ => ?_)
            clear hK K
            try simp only [List.getElem_toArray, List.getElem_cons_zero, List.getElem_cons_succ, Act.put, List.setIfInBounds_toArray, List.set_cons_zero, List.set_cons_succ]
            refine wpAnyH_take (i := 6) (v := ?_) rfl (by kernel_rfl) (by kernel_rfl) (by kernel_rfl) (fun _ _ _ h => h) (Or.inl ⟨by rfl, ?_⟩) HB5.out ?_
            rotate_left
            · intro wS hSw
              go_simp
              try with_reducible rfl
            try simp only [List.getElem_toArray, List.getElem_cons_zero, List.getElem_cons_succ, Act.put, List.setIfInBounds_toArray, List.set_cons_zero, List.set_cons_succ]
            refine wpAnyH_take (i := 8) (v := ?_) rfl (by kernel_rfl) (by kernel_rfl) (by kernel_rfl) (fun _ _ _ h => h) (Or.inl ⟨by rfl, ?_⟩) HB5.out ?_
            rotate_left
            · intro wS hSw
              go_simp
              try with_reducible rfl
            try simp only [List.getElem_toArray, List.getElem_cons_zero, List.getElem_cons_succ, Act.put, List.setIfInBounds_toArray, List.set_cons_zero, List.set_cons_succ]
            refine wpAnyH_take (i := 9) (v := ?_) rfl (by kernel_rfl) (by kernel_rfl) (by kernel_rfl) (fun _ _ _ h => h) (Or.inl ⟨by rfl, ?_⟩) HB5.out ?_
            rotate_left
            · intro wS hSw
              go_simp
              try with_reducible rfl
            try simp only [List.getElem_toArray, List.getElem_cons_zero, List.getElem_cons_succ, Act.put, List.setIfInBounds_toArray, List.set_cons_zero, List.set_cons_succ]
            refine wpAnyH_take (i := 10) (v := ?_) rfl (by kernel_rfl) (by kernel_rfl) (by kernel_rfl) (fun _ _ _ h => h) (Or.inl ⟨by rfl, ?_⟩) HB5.out ?_
            rotate_left
            · intro wS hSw
              go_simp
              try with_reducible rfl
            try simp only [List.getElem_toArray, List.getElem_cons_zero, List.getElem_cons_succ, Act.put, List.setIfInBounds_toArray, List.set_cons_zero, List.set_cons_succ]
            refine wpAnyH_take (i := 7) (v := ?_) rfl (by kernel_rfl) (by kernel_rfl) (by kernel_rfl) (fun _ _ _ h => h) (Or.inl ⟨by rfl, ?_⟩) HB5.out ?_
            rotate_left
            · intro wS hSw
              have hcv := (HSW.out _ hSw).1
              have hcv2 := (HSW.out _ hSw).2
              go_simp
              try with_reducible rfl
            try simp only [List.getElem_toArray, List.getElem_cons_zero, List.getElem_cons_succ, Act.put, List.setIfInBounds_toArray, List.set_cons_zero, List.set_cons_succ]
            refine wpAnyH_take (i := 11) (v := ?_) rfl (by kernel_rfl) (by kernel_rfl) (by kernel_rfl) (fun _ _ _ h => h) (Or.inl ⟨by rfl, ?_⟩) HB5.out ?_
            rotate_left
            · intro wS hSw
              have hcv := HCE.out _ hSw
              go_simp
              try with_reducible rfl
            try simp only [List.getElem_toArray, List.getElem_cons_zero, List.getElem_cons_succ, Act.put, List.setIfInBounds_toArray, List.set_cons_zero, List.set_cons_succ]
            refine wpAnyH_ready (rs := [12]) (by kernel_rfl) (by simp) ?_
            refine AllReadyH.cons rfl (fun K hK => ?_) AllReadyH.nil
            go_simp
            refine (HI2.out _).mono ?_
            rintro e w6 ⟨rfl, hb6⟩
            have HB6 := Lib.hid (HB5.out.via hb6)
            clear hb6
            refine hK.out _ _ HB6.out (fun _ => ?_)
            clear hK K
            try simp only [List.getElem_toArray, List.getElem_cons_zero, List.getElem_cons_succ, Act.put, List.setIfInBounds_toArray, List.set_cons_zero, List.set_cons_succ]
            refine wpAnyH_take (i := 13) (v := ?_) rfl (by kernel_rfl) (by kernel_rfl) (by kernel_rfl) (fun _ _ _ h => h) (Or.inl ⟨by rfl, ?_⟩) HB6.out ?_
            rotate_left
            · intro wS hSw
              go_simp
              try with_reducible rfl
            try simp only [List.getElem_toArray, List.getElem_cons_zero, List.getElem_cons_succ, Act.put, List.setIfInBounds_toArray, List.set_cons_zero, List.set_cons_succ]
            refine wpAnyH_take (i := 14) (v := ?_) rfl (by kernel_rfl) (by kernel_rfl) (by kernel_rfl) (fun _ _ _ h => h) (Or.inl ⟨by rfl, ?_⟩) HB6.out ?_
            rotate_left
            · intro wS hSw
              go_simp
              try with_reducible rfl
            try simp only [List.getElem_toArray, List.getElem_cons_zero, List.getElem_cons_succ, Act.put, List.setIfInBounds_toArray, List.set_cons_zero, List.set_cons_succ]
            refine wpAnyH_take (i := 15) (v := ?_) rfl (by kernel_rfl) (by kernel_rfl) (by kernel_rfl) (fun _ _ _ h => h) (Or.inl ⟨by rfl, ?_⟩) HB6.out ?_
            rotate_left
            · intro wS hSw
              go_simp
              try with_reducible rfl
            try simp only [List.getElem_toArray, List.getElem_cons_zero, List.getElem_cons_succ, Act.put, List.setIfInBounds_toArray, List.set_cons_zero, List.set_cons_succ]
            refine wpAnyH_done (by kernel_rfl) ?_ _
            try go_wp2_with fail
            go_meet
            exact ⟨rfl, HB6⟩
        case rest =>
          obtain ⟨rfl, HB4⟩ := hcut
          obtain ⟨w4, rfl⟩ : ∃ w4, w4 = wc := ⟨_, rfl⟩
          have hce := HCE.out w4 HB4.out
          have HO4 := Lib.hid (HO.out.via HB4.out)
          have HBB : Hid (Below w3.heap.size w3 w4) := Lib.hid (HB.out.via HB4.out)
          have hg4 : gE < w4.heap.size := by have := HB4.out.size; omega
          clear hpa HC HI2 HCE HSW HO HB HBW HB4 HSB HB3
          cases R
          · cases b
            · have HS2 := Lib.hid (HS.out.off HRI.out HFL.out HA.out HP.out)
              clear HS
              go_wp2
              go_roundw
              case rel => exact ⟨i + 1, k, c2, false, A2, O, by go_num, rfl, rfl, by omega, HS2, HO4, HBB⟩
              case measure => first | (simp [Go.RowKit.intOf]; done) | (simp [Go.RowKit.intOf]; omega)
            · obtain ⟨O', u, hOu, _⟩ := HS.out.opn rfl
              subst hOu
              have HS2 := Lib.hid (HS.out.close HRI.out HFL.out HA.out HP.out)
              obtain ⟨p, hp⟩ : ∃ p, O'.length = p := ⟨_, rfl⟩
              obtain ⟨g2, rfl, hg2, hkp, hl0, hl1, hfz⟩ := HO4.out.last hp
              have HPP := Lib.hid hp
              have hk1 : (k : Int) - 1 = (p : Int) := by omega
              have hpk : (p : Int) < (k : Int) := by omega
              have hwp : IntKind.i64.wrap (p : Int) = (p : Int) := by rw [IntKind.wrap_i64]; omega
              have hfz1 := hfz (p * 2 + 1)
              clear HS hp hkp hfz
              go_wp2
              go_roundw
              case rel => exact ⟨i + 1, k, c2, false, _, _, by go_num, rfl, rfl, by omega, HS2, Lib.hid (HO4.out.put HPP.out a), Lib.hid (HBB.out.setCell hg2 _)⟩
              case measure => first | (simp [Go.RowKit.intOf]; done) | (simp [Go.RowKit.intOf]; omega)
          · cases b
            · have HS2 := Lib.hid (HS.out.new HRI.out HFL.out HA.out HP.out)
              clear HS
              go_wp2_with (at_builtin; go_loud (refine wpList_appN rfl (.tmp 43) (.tmp 49) _ rfl w3.heap.size 2 26 i0 _ 32 Try.underlying32 HI.out hz0 hz1' hz2 rfl (by decide) A2 k c2 (cellsL O) rfl (HO4.out.via ((Below.refl _ _).alloc (Nat.le_refl _) _)) (w4.heap.size + 1) (some ⟨w4.heap.size, 0, none⟩) 1 1 (cellsL [(a, Ord.z)]) rfl rfl (Rd.new w4 #[.string a, .string Ord.z] 26 (0, 0) rfl) cellsL_cell (by unfold maxLen; omega) (by omega) (by have := HBB.out.size; simp; omega) ?_; intro A5 c5 w5 ho5 hg5 hb5))
              go_roundw
              case rel => exact ⟨i + 1, k + 1, c5, true, A5, O ++ [(a, Ord.z)], by go_num, rfl, rfl, by omega, HS2, Lib.hid (by unfold Own; rw [cellsL_app]; exact ho5), Lib.hid ((HBB.out.alloc HBB.out.size _).trans hb5)⟩
              case measure => first | (simp [Go.RowKit.intOf]; done) | (simp [Go.RowKit.intOf]; omega)
            · have HS2 := Lib.hid (HS.out.keep HRI.out HFL.out HA.out HP.out)
              clear HS
              go_wp2
              go_roundw
              case rel => exact ⟨i + 1, k, c2, true, A2, O, by go_num, rfl, rfl, by omega, HS2, HO4, HBB⟩
              case measure => first | (simp [Go.RowKit.intOf]; done) | (simp [Go.RowKit.intOf]; omega)
      · have HRR : Hid (Own wr w.heap.size A2 k c2 O ∧ Ord.Canon O ∧ (∀ k, Ord.cov O k = P k) ∧ k ≤ 200 ∧ Below w.heap.size w wr) := Lib.hid (by
          have e : i = E.length := by rw [HEM.out]; omega
          have hs := HS.out
          have h1 := hs.len
          have h2 := HO.out.len
          rw [e] at hs
          exact ⟨HO.out.lower HB03.out.size, hs.done.1, hs.done.2, by omega, HB03.out.trans (HB.out.mono HB03.out.size)⟩)
        clear HS HO HB
        go_wp2
        go_ret
        exact ⟨A2, k, c2, rfl, O, HRR.out⟩
end Cib
