/- The law MatrixMuls. -/
import Derived.Test.YtnicfpkadiamaaaMatA
import Derived.Test.YtnicfpkadiamaaaMatLw
set_option linter.unusedVariables false
set_option linter.unusedSimpArgs false
set_option maxRecDepth 40000
namespace Cib
open Go Go.RowKit Go.Proofs
/-- Two boxes of the call's own, with matrices that came in. -/
structure TwoW (w : World) (M1 M2 : Array Value) (wa : World) : Prop where
  m : Blk wa w.heap.size 24 M1
  n : Blk wa (w.heap.size + 1) 24 M2
  below : Below w.heap.size w wa
section
variable {w wa wb : World} {M1 M2 : Array Value}
theorem TwoW.new (w : World) (M1 M2 : Array Value) : TwoW w M1 M2 ((w.alloc (.cells M1 24)).alloc (.cells M2 24)) :=
  ⟨(Blk.new w _ _).alloc _, by have := Blk.new (w.alloc (.cells M1 24)) 24 M2; simpa using this, ((Below.refl _ _).alloc (Nat.le_refl _) _).alloc (by simp) _⟩
theorem TwoW.via (h : TwoW w M1 M2 wa) (hb : Below wa.heap.size wa wb) : TwoW w M1 M2 wb := ⟨h.m.below hb h.m.lt, h.n.below hb h.n.lt, h.below.via hb⟩
theorem TwoW.alloc (h : TwoW w M1 M2 wa) (o : Obj) : TwoW w M1 M2 (wa.alloc o) := h.via ((Below.refl _ _).alloc (Nat.le_refl _) o)
theorem TwoW.stp (h : TwoW w M1 M2 wa) {g : Nat} (hs : Stp g wa wb) (hg : w.heap.size + 1 < g) : TwoW w M1 M2 wb :=
  ⟨(hs.oth _ h.m.lt (by omega)).trans h.m, (hs.oth _ h.n.lt (by omega)).trans h.n, hs.below h.below (by omega) h.below.size⟩
theorem TwoW.setRow (h : TwoW w M1 M2 wa) {g : Nat} (hg : w.heap.size + 1 < g) (cs : Array Value) : TwoW w M1 M2 (wa.setRow g cs) :=
  ⟨(setRow_other wa g _ cs (by omega)).trans h.m, (setRow_other wa g _ cs (by omega)).trans h.n, below_setRow h.below (by omega) cs⟩
theorem TwoW.lt (h : TwoW w M1 M2 wa) : w.heap.size + 1 < wa.heap.size := h.n.lt
end
/-- A matrix of the call's own, or none, in a variable of the call's own. -/
structure BxM (w : World) (r c : Int) (n g : Nat) (A : Option Addr) (k : Nat) (L : List UInt8) (wr : World) : Prop where
  blk : Blk wr g 24 #[.int .i64 r, .int .i64 c, .slice A n k]
  own : wr.ownsRow w.heap.size 5 1 (.slice A n k) n (L.map bv)
section
variable {w wr w' : World} {r c : Int} {n g b : Nat} {A : Option Addr} {k : Nat} {L : List UInt8}
theorem BxM.via (h : BxM w r c n g A k L wr) (hb : Below wr.heap.size wr w') : BxM w r c n g A k L w' := ⟨h.blk.below hb h.blk.lt, own_belowS h.own hb⟩
theorem BxM.new (ho : wr.ownsRow b 5 1 (.slice A n k) n (L.map bv)) (hb : w.heap.size ≤ b) : BxM w r c n wr.heap.size A k L (wr.alloc (.cells #[.int .i64 r, .int .i64 c, .slice A n k] 24)) :=
  ⟨Blk.new _ _ _, own_lowerS (own_belowS ho ((Below.refl _ _).alloc (Nat.le_refl _) _)) hb⟩
theorem BxM.cells (h : BxM w r c n g A k L wr) : wr.cell? ⟨g, 0, none⟩ = some (.int .i64 r) ∧ wr.cell? ⟨g, 1, none⟩ = some (.int .i64 c) ∧ wr.cell? ⟨g, 2, none⟩ = some (.slice A n k) := ⟨h.blk.cell 0, h.blk.cell 1, h.blk.cell 2⟩
theorem BxM.put {cs : Array Value} (hb : Blk wr g 24 cs) (ho : wr.ownsRow b 5 1 (.slice A n k) n (L.map bv)) (hbs : w.heap.size ≤ b) : BxM w r c n g A k L (wr.setRow g #[.int .i64 r, .int .i64 c, .slice A n k]) :=
  ⟨hb.row _, own_setRow (own_lowerS ho hbs) (fun he => by
    have := Ty.one (own_blockV ho he).1 hb.ty
    exact absurd this (by decide)) _⟩
end
theorem same_any {w W : World} {r c : Int} {n g g' : Nat} {A A' : Option Addr} {k k' : Nat} {L : List UInt8} (h : BxM w r c n g A k L W) (h' : BxM w r c n g' A' k' L W) (hl : L.length = n) :
    Calls Try.prog 14 #[.agg #[.int .i64 r, .int .i64 c, .slice A n k], .agg #[.int .i64 r, .int .i64 c, .slice A' n k']] W fun e w' => e = .returned (.bool true) ∧ Below W.heap.size W w' := by
  have := refSame4 r c A n k L r c A' n k' L W W.heap.size (Nat.le_refl _) (Rd.of_own h.own) hl (Rd.of_own h'.own) hl
  rw [show smB r c L r c L = true by simp [smB]] at this
  exact this
theorem apart_at {w : World} {A : Option Addr} {bs : List UInt8} (h : Rd w w.heap.size A (bs.map bv)) (h0 : 0 < bs.length) {g : Nat} (hg : w.heap.size ≤ g) : ∀ ad, A = some ad → ad.block ≠ g := fun ad e => by
  obtain ⟨ad', e', hb, _⟩ := h (by intro e; rw [List.map_eq_nil_iff] at e; rw [e] at h0; simp at h0)
  rw [e] at e'
  injection e' with e'
  subst e'
  omega
theorem apart_off {w : World} {A : Option Addr} {bs : List UInt8} {n : Nat} (hl : bs.length = n) (h : Rd w w.heap.size A (bs.map bv)) {g : Nat} (hg : w.heap.size ≤ g) : 0 < n → ∀ ad, A = some ad → ad.block ≠ g := fun h0 => apart_at h (by omega) hg
theorem blk_fld {w : World} {k g : Nat} {cs : Array Value} (hb : Blk w k 24 cs) (hf : Fld w g) : k ≠ g := by
  rintro rfl
  rcases hf with h | h <;> exact absurd (Ty.one hb.ty h.ty) (by decide)
theorem Stp.mat {w w' : World} {k g : Nat} {cs : Array Value} (hs : Stp g w w') (hf : Fld w g) (hb : Blk w k 24 cs) : Blk w' k 24 cs := (hs.oth k hb.lt (blk_fld hb hf)).trans hb
set_option maxHeartbeats 2000000 in
theorem lawMulsNo (r1 c1 : Int) (A1 : Option Addr) (n1 k1 : Nat) (r2 c2 : Int) (A2 : Option Addr) (n2 k2 : Nat) (w : World) (hk1 : n1 ≤ maxLen) (hk2 : n2 ≤ maxLen) (hno : 150 < n1 ∨ 150 < n2) :
    Calls Try.prog 5 #[.agg (mv r1 c1 A1 n1 k1), .agg (mv r2 c2 A2 n2 k2)] w fun e w' => e = .returned (.bool true) ∧ Below w.heap.size w w' := by
  have HS := Lib.hid (fun W => lawStands W)
  have HT := Lib.hid (TwoW.new w (mv r1 c1 A1 n1 k1) (mv r2 c2 A2 n2 k2))
  have HF1 := Lib.hid fun W => lawFew4 r1 c1 A1 n1 k1 hk1 W
  have HF2 := Lib.hid fun W => lawFew4 r2 c2 A2 n2 k2 hk2 W
  unfold mv at HT HF1 HF2 ⊢
  by_cases hfew : n1 ≤ 150
  · rw [decide_eq_true hfew] at HF1
    have hno' : ¬ n2 ≤ 150 := by omega
    rw [decide_eq_false hno'] at HF2
    go_enter Try.func5, Try.ntmps5
    go_wp2_with fail
    refine (HF1.out _).mono ?_
    rintro e w2 ⟨rfl, hb2⟩
    have HT2 := Lib.hid (HT.out.via hb2)
    clear hb2
    have n0 := HT2.out.n.cell 0
    have n1' := HT2.out.n.cell 1
    have n2' := HT2.out.n.cell 2
    simp only [List.getElem?_toArray, List.getElem?_cons_zero, List.getElem?_cons_succ] at n0 n1' n2'
    go_wp2_with fail
    refine (HF2.out _).mono ?_
    rintro e w3 ⟨rfl, hb3⟩
    go_wp2_with fail
    refine (HS.out _).mono ?_
    rintro e w4 ⟨rfl, hb4⟩
    go_wp2
    go_ret
    exact ⟨rfl, (HT2.out.below.via hb3).via hb4⟩
  · rw [decide_eq_false hfew] at HF1
    go_enter Try.func5, Try.ntmps5
    go_wp2_with fail
    refine (HF1.out _).mono ?_
    rintro e w2 ⟨rfl, hb2⟩
    go_wp2_with fail
    refine (HS.out _).mono ?_
    rintro e w3 ⟨rfl, hb3⟩
    go_wp2
    go_ret
    exact ⟨rfl, (HT.out.below.via hb2).via hb3⟩
set_option maxHeartbeats 1000000 in
theorem lawMuls (r1 c1 : Int) (A1 : Option Addr) (n1 k1 : Nat) (as_ : List UInt8) (r2 c2 : Int) (A2 : Option Addr) (n2 k2 : Nat) (bs : List UInt8) (w : World) (h1 : Rd w w.heap.size A1 (as_.map bv)) (h2 : Rd w w.heap.size A2 (bs.map bv)) (hl1 : as_.length = n1) (hl2 : bs.length = n2) (hk1 : n1 ≤ k1) (hk2 : n2 ≤ k2) (hm1 : k1 ≤ maxLen) (hm2 : k2 ≤ maxLen) :
    Calls Try.prog 5 #[.agg (mv r1 c1 A1 n1 k1), .agg (mv r2 c2 A2 n2 k2)] w fun e w' => e = .returned (.bool true) ∧ Below w.heap.size w w' := by
  by_cases hno : 150 < n1 ∨ 150 < n2
  · exact lawMulsNo r1 c1 A1 n1 k1 r2 c2 A2 n2 k2 w (Nat.le_trans hk1 hm1) (Nat.le_trans hk2 hm2) hno
  obtain ⟨r, c, n, F, err, hF, -, hA, hB⟩ := mulBoth r1 c1 A1 n1 k1 as_ r2 c2 A2 n2 k2 bs hl1 hl2 hk1 hk2 (by omega) (by omega)
  have HS := Lib.hid (fun W => lawStands W)
  have HT := Lib.hid (TwoW.new w (mv r1 c1 A1 n1 k1) (mv r2 c2 A2 n2 k2))
  have HF1 := Lib.hid fun W => lawFew4 r1 c1 A1 n1 k1 (Nat.le_trans hk1 hm1) W
  have HF2 := Lib.hid fun W => lawFew4 r2 c2 A2 n2 k2 (Nat.le_trans hk2 hm2) W
  rw [decide_eq_true (by omega)] at HF1 HF2
  have HMA := Lib.hid fun g W (hf : Fld W g) (hb : Below w.heap.size w W) (hg : w.heap.size ≤ g) => hA g W hf ((h1.below hb).more hb.size) ((h2.below hb).more hb.size) (apart_off hl1 h1 hg) (apart_off hl2 h2 hg)
  have HMB := Lib.hid fun W (hb : Below w.heap.size w W) => hB W ((h1.below hb).more hb.size) ((h2.below hb).more hb.size)
  have HMN := Lib.hid fun W => nilMul r1 c1 A1 n1 k1 r2 c2 A2 n2 k2 W
  have HFL := Lib.hid hF
  unfold AnyM at HMA
  unfold AnyE at HMB
  unfold mv at HT HF1 HF2 HMA HMB HMN ⊢
  clear hA hB h1 h2 hl1 hl2 hno hF
  go_enter Try.func5, Try.ntmps5
  go_wp2_with fail
  refine (HF1.out _).mono ?_
  rintro e w2 ⟨rfl, hb2⟩
  have HT2 := Lib.hid (HT.out.via hb2)
  clear hb2
  have n0 := HT2.out.n.cell 0
  have n1' := HT2.out.n.cell 1
  have n2' := HT2.out.n.cell 2
  simp only [List.getElem?_toArray, List.getElem?_cons_zero, List.getElem?_cons_succ] at n0 n1' n2'
  go_wp2_with fail
  refine (HF2.out _).mono ?_
  rintro e w3 ⟨rfl, hb3⟩
  have HT0 := Lib.hid ((HT2.out.via hb3).via (below_drewN (Below.refl _ _) 1))
  clear hb3 n0 n1' n2' HT2 HT HF1 HF2
  go_upto_region 3 with fail
  go_cut [5, 6] (fun p e wx => ∃ (g : Nat) (A : Option Addr) (k : Nat), p = .pointer (some ⟨g, 0, none⟩) ∧ e = .int .i64 err ∧ Hid (BxM w r c n g A k F wx) ∧ Hid (TwoW w #[.int .i64 r1, .int .i64 c1, .slice A1 n1 k1] #[.int .i64 r2, .int .i64 c2, .slice A2 n2 k2] wx))
  case first =>
    refine wp_region_held_drew (S := (fun wQq => TwoW w #[.int .i64 r1, .int .i64 c1, .slice A1 n1 k1] #[.int .i64 r2, .int .i64 c2, .slice A2 n2 k2] wQq)) (by kernel_rfl) (HT0.out) (fun _ => ?_)
    refine wpAnyH_take (i := 1) (v := ?_) rfl (by kernel_rfl) (by kernel_rfl) (by kernel_rfl) (fun _ _ _ h => h) (Or.inl ⟨by rfl, ?_⟩) (HT0.out) ?_
    rotate_left
    · intro wS hSw
      have hcv := hSw.m.cell 0
      have hcv1 := hSw.m.cell 1
      have hcv2 := hSw.m.cell 2
      go_simp
      try with_reducible rfl
    try simp only [List.getElem_toArray, List.getElem_cons_zero, List.getElem_cons_succ, Act.put, List.setIfInBounds_toArray, List.set_cons_zero, List.set_cons_succ]
    refine wpAnyH_take (i := 2) (v := ?_) rfl (by kernel_rfl) (by kernel_rfl) (by kernel_rfl) (fun _ _ _ h => h) (Or.inl ⟨by rfl, ?_⟩) (HT0.out) ?_
    rotate_left
    · intro wS hSw
      have hcv := hSw.n.cell 0
      have hcv1 := hSw.n.cell 1
      have hcv2 := hSw.n.cell 2
      go_simp
      try with_reducible rfl
    try simp only [List.getElem_toArray, List.getElem_cons_zero, List.getElem_cons_succ, Act.put, List.setIfInBounds_toArray, List.set_cons_zero, List.set_cons_succ]
    refine wpAnyH_ready (rs := [0, 7]) (by kernel_rfl) (by simp) ?_
    refine AllReadyH.cons rfl (fun K hK => ?_) (AllReadyH.cons rfl (fun K hK => ?_) AllReadyH.nil)
    · go_simp
      refine (fldNewA _).mono ?_
      rintro e w4 ⟨rfl, hf4, hs4, hb4⟩
      have HF4 : Hid (Fld w4 w3.heap.size) := Lib.hid hf4
      have HT4 := Lib.hid (HT0.out.via (hb4 _ _ (Nat.le_refl _) (Below.refl _ _)))
      clear hf4 hs4 hb4
      refine hK.out _ _ HT4.out (fun _ => ?_)
      clear hK K
      try simp only [List.getElem_toArray, List.getElem_cons_zero, List.getElem_cons_succ, Act.put, List.setIfInBounds_toArray, List.set_cons_zero, List.set_cons_succ]
      refine wpAnyH_ready (rs := [3, 7]) (by kernel_rfl) (by simp) ?_
      refine AllReadyH.cons rfl (fun K hK => ?_) (AllReadyH.cons rfl (fun K hK => ?_) AllReadyH.nil)
      · go_simp
        refine (HMA.out _ _ HF4.out HT4.out.below HT0.out.below.size).mono ?_
        rintro e w5 ⟨Ax, kx, rfl, ho5, hs5⟩
        have HT5 := Lib.hid (HT4.out.stp hs5 HT0.out.lt)
        have HO5 := Lib.hid (own_lowerS ho5 HT4.out.below.size)
        clear ho5 hs5
        refine hK.out _ _ HT5.out (fun _ => ?_)
        clear hK K
        try simp only [List.getElem_toArray, List.getElem_cons_zero, List.getElem_cons_succ, Act.put, List.setIfInBounds_toArray, List.set_cons_zero, List.set_cons_succ]
        refine wpAnyH_take (i := 4) (v := ?_) rfl (by kernel_rfl) (by kernel_rfl) (by kernel_rfl) (fun _ _ _ h => h) (Or.inl ⟨by rfl, ?_⟩) HT5.out ?_
        rotate_left
        · intro wS hSw
          go_simp
          try with_reducible rfl
        try simp only [List.getElem_toArray, List.getElem_cons_zero, List.getElem_cons_succ, Act.put, List.setIfInBounds_toArray, List.set_cons_zero, List.set_cons_succ]
        refine wpAnyH_take (i := 5) (v := ?_) rfl (by kernel_rfl) (by kernel_rfl) (by kernel_rfl) (fun _ _ _ h => h) (Or.inl ⟨by rfl, ?_⟩) HT5.out ?_
        rotate_left
        · intro wS hSw
          go_simp
          try with_reducible rfl
        try simp only [List.getElem_toArray, List.getElem_cons_zero, List.getElem_cons_succ, Act.put, List.setIfInBounds_toArray, List.set_cons_zero, List.set_cons_succ]
        refine wpAnyH_take (i := 6) (v := ?_) rfl (by kernel_rfl) (by kernel_rfl) (by kernel_rfl) (fun _ _ _ h => h) (Or.inl ⟨by rfl, ?_⟩) HT5.out ?_
        rotate_left
        · intro wS hSw
          go_simp
          try with_reducible rfl
        try simp only [List.getElem_toArray, List.getElem_cons_zero, List.getElem_cons_succ, Act.put, List.setIfInBounds_toArray, List.set_cons_zero, List.set_cons_succ]
        refine wpAnyH_ready (rs := [7]) (by kernel_rfl) (by simp) ?_
        refine AllReadyH.cons rfl (fun K hK => ?_) AllReadyH.nil
        go_simp
        have HX7 := Lib.hid (Blk.new w5 24 #[.int .i64 0, .int .i64 0, .slice none 0 0])
        have HT7 := Lib.hid (HT5.out.alloc (.cells #[.int .i64 0, .int .i64 0, .slice none 0 0] 24))
        have HO7 := Lib.hid (own_belowS HO5.out ((Below.refl w5.heap.size w5).alloc (Nat.le_refl _) (.cells #[.int .i64 0, .int .i64 0, .slice none 0 0] 24)))
        have hl7 := HT5.out.lt
        refine hK.out _ _ HT7.out (fun _ => ?_)
        clear hK K
        try simp only [List.getElem_toArray, List.getElem_cons_zero, List.getElem_cons_succ, Act.put, List.setIfInBounds_toArray, List.set_cons_zero, List.set_cons_succ]
        refine wpAnyH_ready (rs := [8]) (by kernel_rfl) (by simp) ?_
        refine AllReadyH.cons rfl (fun K hK => ?_) AllReadyH.nil
        refine wp_store_row 24 (.tmp 5) (.tmp 25) rfl w5.heap.size #[.int .i64 r, .int .i64 c, .slice Ax n kx] rfl rfl 24 #[.int .i64 0, .int .i64 0, .slice none 0 0] HX7.out matInfo3 rfl (mv_one _ _ _ _ _) ?_
        have HT8 := Lib.hid (HT7.out.setRow (g := w5.heap.size) HT5.out.lt #[.int .i64 r, .int .i64 c, .slice Ax n kx])
        have HB8 := Lib.hid (BxM.put (w := w) (r := r) (c := c) HX7.out HO7.out (Nat.le_refl _))
        refine hK.out _ _ HT8.out (fun _ => ?_)
        clear hK K
        try simp only [List.getElem_toArray, List.getElem_cons_zero, List.getElem_cons_succ, Act.put, List.setIfInBounds_toArray, List.set_cons_zero, List.set_cons_succ]
        refine wpAnyH_take (i := 9) (v := ?_) rfl (by kernel_rfl) (by kernel_rfl) (by kernel_rfl) (fun _ _ _ h => h) (Or.inl ⟨by rfl, ?_⟩) HT8.out ?_
        rotate_left
        · intro wS hSw
          go_simp
          try with_reducible rfl
        try simp only [List.getElem_toArray, List.getElem_cons_zero, List.getElem_cons_succ, Act.put, List.setIfInBounds_toArray, List.set_cons_zero, List.set_cons_succ]
        refine wpAnyH_done (by kernel_rfl) ?_ _
        go_wp2_with fail
        go_meet
        exact ⟨_, _, _, rfl, rfl, HB8, HT8⟩
      · go_simp
        have HX7 := Lib.hid (Blk.new w4 24 #[.int .i64 0, .int .i64 0, .slice none 0 0])
        have HT7 := Lib.hid (HT4.out.alloc (.cells #[.int .i64 0, .int .i64 0, .slice none 0 0] 24))
        have HF7 := Lib.hid (HF4.out.on ((Below.refl w4.heap.size w4).alloc (Nat.le_refl _) (.cells #[.int .i64 0, .int .i64 0, .slice none 0 0] 24)))
        have hl7 := HT4.out.lt
        refine hK.out _ _ HT7.out (fun _ => ?_)
        clear hK K
        try simp only [List.getElem_toArray, List.getElem_cons_zero, List.getElem_cons_succ, Act.put, List.setIfInBounds_toArray, List.set_cons_zero, List.set_cons_succ]
        refine wpAnyH_ready (rs := [3]) (by kernel_rfl) (by simp) ?_
        refine AllReadyH.cons rfl (fun K hK => ?_) AllReadyH.nil
        go_simp
        refine (HMA.out _ _ HF7.out HT7.out.below HT0.out.below.size).mono ?_
        rintro e w5 ⟨Ax, kx, rfl, ho5, hs5⟩
        have HT5 := Lib.hid (HT7.out.stp hs5 HT0.out.lt)
        have HO5 := Lib.hid (own_lowerS ho5 HT7.out.below.size)
        have HX5 := Lib.hid (hs5.mat HF7.out HX7.out)
        clear ho5 hs5
        refine hK.out _ _ HT5.out (fun _ => ?_)
        clear hK K
        try simp only [List.getElem_toArray, List.getElem_cons_zero, List.getElem_cons_succ, Act.put, List.setIfInBounds_toArray, List.set_cons_zero, List.set_cons_succ]
        refine wpAnyH_take (i := 4) (v := ?_) rfl (by kernel_rfl) (by kernel_rfl) (by kernel_rfl) (fun _ _ _ h => h) (Or.inl ⟨by rfl, ?_⟩) HT5.out ?_
        rotate_left
        · intro wS hSw
          go_simp
          try with_reducible rfl
        try simp only [List.getElem_toArray, List.getElem_cons_zero, List.getElem_cons_succ, Act.put, List.setIfInBounds_toArray, List.set_cons_zero, List.set_cons_succ]
        refine wpAnyH_take (i := 5) (v := ?_) rfl (by kernel_rfl) (by kernel_rfl) (by kernel_rfl) (fun _ _ _ h => h) (Or.inl ⟨by rfl, ?_⟩) HT5.out ?_
        rotate_left
        · intro wS hSw
          go_simp
          try with_reducible rfl
        try simp only [List.getElem_toArray, List.getElem_cons_zero, List.getElem_cons_succ, Act.put, List.setIfInBounds_toArray, List.set_cons_zero, List.set_cons_succ]
        refine wpAnyH_take (i := 6) (v := ?_) rfl (by kernel_rfl) (by kernel_rfl) (by kernel_rfl) (fun _ _ _ h => h) (Or.inl ⟨by rfl, ?_⟩) HT5.out ?_
        rotate_left
        · intro wS hSw
          go_simp
          try with_reducible rfl
        try simp only [List.getElem_toArray, List.getElem_cons_zero, List.getElem_cons_succ, Act.put, List.setIfInBounds_toArray, List.set_cons_zero, List.set_cons_succ]
        refine wpAnyH_ready (rs := [8]) (by kernel_rfl) (by simp) ?_
        refine AllReadyH.cons rfl (fun K hK => ?_) AllReadyH.nil
        refine wp_store_row 24 (.tmp 5) (.tmp 25) rfl w4.heap.size #[.int .i64 r, .int .i64 c, .slice Ax n kx] rfl rfl 24 #[.int .i64 0, .int .i64 0, .slice none 0 0] HX5.out matInfo3 rfl (mv_one _ _ _ _ _) ?_
        have HT8 := Lib.hid (HT5.out.setRow (g := w4.heap.size) HT4.out.lt #[.int .i64 r, .int .i64 c, .slice Ax n kx])
        have HB8 := Lib.hid (BxM.put (w := w) (r := r) (c := c) HX5.out HO5.out (Nat.le_refl _))
        refine hK.out _ _ HT8.out (fun _ => ?_)
        clear hK K
        try simp only [List.getElem_toArray, List.getElem_cons_zero, List.getElem_cons_succ, Act.put, List.setIfInBounds_toArray, List.set_cons_zero, List.set_cons_succ]
        refine wpAnyH_take (i := 9) (v := ?_) rfl (by kernel_rfl) (by kernel_rfl) (by kernel_rfl) (fun _ _ _ h => h) (Or.inl ⟨by rfl, ?_⟩) HT8.out ?_
        rotate_left
        · intro wS hSw
          go_simp
          try with_reducible rfl
        try simp only [List.getElem_toArray, List.getElem_cons_zero, List.getElem_cons_succ, Act.put, List.setIfInBounds_toArray, List.set_cons_zero, List.set_cons_succ]
        refine wpAnyH_done (by kernel_rfl) ?_ _
        go_wp2_with fail
        go_meet
        exact ⟨_, _, _, rfl, rfl, HB8, HT8⟩
    · go_simp
      have HX7 : Hid (Blk (w3.drew.alloc (.cells #[.int .i64 0, .int .i64 0, .slice none 0 0] 24)) w3.heap.size 24 #[.int .i64 0, .int .i64 0, .slice none 0 0]) := Lib.hid (Blk.new w3.drew 24 #[.int .i64 0, .int .i64 0, .slice none 0 0])
      have HT7 := Lib.hid (HT0.out.alloc (.cells #[.int .i64 0, .int .i64 0, .slice none 0 0] 24))
      have hl7 := HT0.out.lt
      refine hK.out _ _ HT7.out (fun _ => ?_)
      clear hK K
      try simp only [List.getElem_toArray, List.getElem_cons_zero, List.getElem_cons_succ, Act.put, List.setIfInBounds_toArray, List.set_cons_zero, List.set_cons_succ]
      refine wpAnyH_ready (rs := [0]) (by kernel_rfl) (by simp) ?_
      refine AllReadyH.cons rfl (fun K hK => ?_) AllReadyH.nil
      go_simp
      refine (fldNewA _).mono ?_
      rintro e w4 ⟨rfl, hf4, hs4, hb4⟩
      have hf4' : Fld w4 (w3.alloc (.cells #[.int .i64 0, .int .i64 0, .slice none 0 0] 24)).heap.size := hf4
      rw [World.size_alloc] at hf4'
      have HF4 := Lib.hid hf4'
      have HT4 := Lib.hid (HT7.out.via (hb4 _ _ (Nat.le_refl _) (Below.refl _ _)))
      have HX8 : Hid (Blk w4 w3.heap.size 24 #[.int .i64 0, .int .i64 0, .slice none 0 0]) := Lib.hid (HX7.out.below (hb4 _ _ (Nat.le_refl _) (Below.refl _ _)) HX7.out.lt)
      clear hf4 hf4' hs4 hb4
      refine hK.out _ _ HT4.out (fun _ => ?_)
      clear hK K
      try simp only [List.getElem_toArray, List.getElem_cons_zero, List.getElem_cons_succ, Act.put, List.setIfInBounds_toArray, List.set_cons_zero, List.set_cons_succ]
      refine wpAnyH_ready (rs := [3]) (by kernel_rfl) (by simp) ?_
      refine AllReadyH.cons rfl (fun K hK => ?_) AllReadyH.nil
      go_simp
      refine (HMA.out _ _ HF4.out HT4.out.below (Nat.le_succ_of_le HT0.out.below.size)).mono ?_
      rintro e w5 ⟨Ax, kx, rfl, ho5, hs5⟩
      have HT5 := Lib.hid (HT4.out.stp hs5 (Nat.lt_succ_of_lt HT0.out.lt))
      have HO5 := Lib.hid (own_lowerS ho5 HT4.out.below.size)
      have HX5 := Lib.hid (hs5.mat HF4.out HX8.out)
      clear ho5 hs5
      refine hK.out _ _ HT5.out (fun _ => ?_)
      clear hK K
      try simp only [List.getElem_toArray, List.getElem_cons_zero, List.getElem_cons_succ, Act.put, List.setIfInBounds_toArray, List.set_cons_zero, List.set_cons_succ]
      refine wpAnyH_take (i := 4) (v := ?_) rfl (by kernel_rfl) (by kernel_rfl) (by kernel_rfl) (fun _ _ _ h => h) (Or.inl ⟨by rfl, ?_⟩) HT5.out ?_
      rotate_left
      · intro wS hSw
        go_simp
        try with_reducible rfl
      try simp only [List.getElem_toArray, List.getElem_cons_zero, List.getElem_cons_succ, Act.put, List.setIfInBounds_toArray, List.set_cons_zero, List.set_cons_succ]
      refine wpAnyH_take (i := 5) (v := ?_) rfl (by kernel_rfl) (by kernel_rfl) (by kernel_rfl) (fun _ _ _ h => h) (Or.inl ⟨by rfl, ?_⟩) HT5.out ?_
      rotate_left
      · intro wS hSw
        go_simp
        try with_reducible rfl
      try simp only [List.getElem_toArray, List.getElem_cons_zero, List.getElem_cons_succ, Act.put, List.setIfInBounds_toArray, List.set_cons_zero, List.set_cons_succ]
      refine wpAnyH_take (i := 6) (v := ?_) rfl (by kernel_rfl) (by kernel_rfl) (by kernel_rfl) (fun _ _ _ h => h) (Or.inl ⟨by rfl, ?_⟩) HT5.out ?_
      rotate_left
      · intro wS hSw
        go_simp
        try with_reducible rfl
      try simp only [List.getElem_toArray, List.getElem_cons_zero, List.getElem_cons_succ, Act.put, List.setIfInBounds_toArray, List.set_cons_zero, List.set_cons_succ]
      refine wpAnyH_ready (rs := [8]) (by kernel_rfl) (by simp) ?_
      refine AllReadyH.cons rfl (fun K hK => ?_) AllReadyH.nil
      refine wp_store_row 24 (.tmp 5) (.tmp 25) rfl w3.heap.size #[.int .i64 r, .int .i64 c, .slice Ax n kx] rfl rfl 24 #[.int .i64 0, .int .i64 0, .slice none 0 0] HX5.out matInfo3 rfl (mv_one _ _ _ _ _) ?_
      have HT8 := Lib.hid (HT5.out.setRow (g := w3.heap.size) HT0.out.lt #[.int .i64 r, .int .i64 c, .slice Ax n kx])
      have HB8 := Lib.hid (BxM.put (w := w) (r := r) (c := c) HX5.out HO5.out (Nat.le_refl _))
      refine hK.out _ _ HT8.out (fun _ => ?_)
      clear hK K
      try simp only [List.getElem_toArray, List.getElem_cons_zero, List.getElem_cons_succ, Act.put, List.setIfInBounds_toArray, List.set_cons_zero, List.set_cons_succ]
      refine wpAnyH_take (i := 9) (v := ?_) rfl (by kernel_rfl) (by kernel_rfl) (by kernel_rfl) (fun _ _ _ h => h) (Or.inl ⟨by rfl, ?_⟩) HT8.out ?_
      rotate_left
      · intro wS hSw
        go_simp
        try with_reducible rfl
      try simp only [List.getElem_toArray, List.getElem_cons_zero, List.getElem_cons_succ, Act.put, List.setIfInBounds_toArray, List.set_cons_zero, List.set_cons_succ]
      refine wpAnyH_done (by kernel_rfl) ?_ _
      go_wp2_with fail
      go_meet
      exact ⟨_, _, _, rfl, rfl, HB8, HT8⟩
  case rest =>
    obtain ⟨gx, Ax, kx, rfl, rfl, hX, hT⟩ := hcut
    clear HMA HT0
    obtain ⟨m0, m1, m2⟩ : _ ∧ _ ∧ _ := ⟨hT.out.m.cell 0, hT.out.m.cell 1, hT.out.m.cell 2⟩
    obtain ⟨n0, n1', n2'⟩ : _ ∧ _ ∧ _ := ⟨hT.out.n.cell 0, hT.out.n.cell 1, hT.out.n.cell 2⟩
    simp only [List.getElem?_toArray, List.getElem?_cons_zero, List.getElem?_cons_succ] at m0 m1 m2 n0 n1' n2'
    go_wp2_with fail
    refine (HMB.out _ hT.out.below).mono ?_
    rintro e w6 ⟨Ay, ky, rfl, ho6, hb6⟩
    have hal6 := (Below.refl w6.heap.size w6).alloc (Nat.le_refl _) (.cells #[.int .i64 r, .int .i64 c, .slice Ay n ky] 24)
    have HY := Lib.hid (BxM.new (w := w) (r := r) (c := c) ho6 hT.out.below.size)
    have hb7 := hb6.trans (hal6.mono hb6.size)
    have HX7 := Lib.hid (hX.out.via hb7)
    have HT7 := Lib.hid (hT.out.via hb7)
    have hlt6 : w.heap.size + 1 < w6.heap.size := Nat.lt_of_lt_of_le hT.out.lt hb6.size
    have hlt6b : w.heap.size < w6.heap.size := by omega
    clear hb6 ho6 hal6 hb7 m0 m1 m2 n0 n1' n2' hX hT HMB
    obtain ⟨m0, m1, m2⟩ : _ ∧ _ ∧ _ := ⟨HT7.out.m.cell 0, HT7.out.m.cell 1, HT7.out.m.cell 2⟩
    obtain ⟨n0, n1', n2'⟩ : _ ∧ _ ∧ _ := ⟨HT7.out.n.cell 0, HT7.out.n.cell 1, HT7.out.n.cell 2⟩
    simp only [List.getElem?_toArray, List.getElem?_cons_zero, List.getElem?_cons_succ] at m0 m1 m2 n0 n1' n2'
    go_upto_region 5 with fail
    generalize w6.alloc _ = w7 at *
    generalize w6.heap.size = gy at *
    go_wp2_with fail
    refine (HMN.out _).mono ?_
    rintro e w8 ⟨rfl, hb8⟩
    have hal8 := (Below.refl w8.heap.size w8).alloc (Nat.le_refl _) (.cells #[.int .i64 0, .int .i64 0, .slice none 0 0] 24)
    have hb9 := hb8.trans (hal8.mono hb8.size)
    have HX9 := Lib.hid (HX7.out.via hb9)
    have HY9 := Lib.hid (HY.out.via hb9)
    have HB9 := Lib.hid (HT7.out.below.via hb9)
    have l8 : gx < w8.heap.size := Nat.lt_of_lt_of_le HX7.out.blk.lt hb8.size
    have l9 : gy < w8.heap.size := Nat.lt_of_lt_of_le HY.out.blk.lt hb8.size
    clear hb8 hal8 hb9 m0 m1 m2 n0 n1' n2' HX7 HT7 HY HMN
    go_upto_region 6 with fail
    generalize w8.alloc _ = w9 at *
    generalize w8.heap.size = gz at *
    obtain ⟨x0, x1, x2⟩ := HX9.out.cells
    obtain ⟨y0, y1, y2⟩ := HY9.out.cells
    have HSA := Lib.hid (same_any HX9.out HY9.out HFL.out)
    go_wp2_with fail
    refine HSA.out.mono ?_
    rintro e w10 ⟨rfl, hb10⟩
    have HB10 := Lib.hid (HB9.out.via hb10)
    clear hb10 x0 x1 x2 y0 y1 y2 HSA
    go_wp2_with fail
    refine (HS.out _).mono ?_
    rintro e w11 ⟨rfl, hb11⟩
    go_wp2
    go_ret
    exact ⟨rfl, HB10.out.via hb11⟩
end Cib
