/- Order: Union at the page's example; what must come at any rate. -/
import Derived.Test.YtijinfmokbaahaaOrdD
set_option linter.unusedVariables false
set_option linter.unusedSimpArgs false
set_option maxRecDepth 20000
namespace Cib
open Go Go.RowKit Go.Proofs
/-- The first span of a row of the call's own. -/
def Two (w : World) (g : Nat) (a b : ByteArray) : Prop := ∃ cs, Blk w g 26 cs ∧ cs[0]? = some (.string a) ∧ cs[1]? = some (.string b)
section
variable {w w' : World} {g : Nat} {a b c d : ByteArray}
theorem Two.c0 (h : Two w g a b) : w.cell? ⟨g, 0, none⟩ = some (.string a) := by obtain ⟨cs, h, h0, h1⟩ := h; exact (h.cell 0).trans h0
theorem Two.c1 (h : Two w g a b) : w.cell? ⟨g, 1, none⟩ = some (.string b) := by obtain ⟨cs, h, h0, h1⟩ := h; exact (h.cell 1).trans h1
theorem Two.fr (h : Two w g a b) (i : Nat) : w.frozen? ⟨g, i, none⟩ = false := by obtain ⟨cs, h, _⟩ := h; exact h.frozen i
theorem Two.lt (h : Two w g a b) : g < w.heap.size := by obtain ⟨cs, h, _⟩ := h; exact h.lt
theorem Two.below {B : Nat} (h : Two w g a b) (hb : Below B w w') (hg : g < B) : Two w' g a b := by obtain ⟨cs, h, h'⟩ := h; exact ⟨cs, h.below hb hg, h'⟩
theorem Two.drewN (h : Two w g a b) (n : Nat) : Two (w.drewN n) g a b := h
theorem Two.to (h : Two w g a b) (s : ByteArray) : Two (w.setCell ⟨g, 1, none⟩ (.string s)) g a s := by
  obtain ⟨cs, h, h0, h1⟩ := h
  have l1 : 1 < cs.size := (Array.getElem?_eq_some_iff.1 h1).1
  refine ⟨_, h.set 1 _, ?_, ?_⟩
  all_goals simp [Array.getElem?_setIfInBounds, l1, h0]
theorem Four.far (h : Four w g a b c d) {p : Addr} (hp : g ≠ p.block) (u : Value) : Four (w.setCell p u) g a b c d := by obtain ⟨cs, h, h'⟩ := h; exact ⟨cs, h.far hp u, h'⟩
theorem Two.own {B : Nat} {A : Option Addr} {c : Nat} (h : w.ownsRow B 26 2 (.slice A 1 c) 1 [.string a, .string b]) : ∃ g, A = some ⟨g, 0, none⟩ ∧ Two w g a b ∧ B ≤ g := by
  rcases h.2 with ⟨h0, h1⟩ | ⟨g, cap, cur, hv, h1, h2, h3⟩
  · omega
  · injection hv with e1 _ e3
    subst e1
    obtain ⟨_, _, _, h6⟩ := h3
    have hh : ∀ i, i < 2 → cur[i]? = ([.string a, .string b] : List Value)[i]? := fun i hi => by
      have h7 : (List.take (1 * 2) cur.toList)[i]? = ([.string a, .string b] : List Value)[i]? := by rw [h6]
      rw [List.getElem?_take_of_lt (by omega)] at h7
      simpa using h7
    exact ⟨g, rfl, ⟨cur, h2, hh 0 (by omega), hh 1 (by omega)⟩, h1⟩
end
theorem hi_cd : Ord.hi ⟨#[99]⟩ ⟨#[100]⟩ = ⟨#[100]⟩ := by simp [Ord.hi, Ord.top, Ord.no, Ord.lt, Go.ByteArray.toList_eq, Op.bytesLess]
theorem lt_bc : Op.bytesLess (ByteArray.toList ⟨#[98]⟩) (ByteArray.toList ⟨#[99]⟩) = true := by simp [Go.ByteArray.toList_eq, Op.bytesLess]
theorem ee_c : (ByteArray.toList ⟨#[99]⟩).isEmpty = false := by simp [Go.ByteArray.toList_eq]
/-- In the loop of Union. -/
structure UnI (W : World) (B g : Nat) (x4 x17 : Value) (wx : World) : Prop where
  four : Four wx g ⟨#[97]⟩ ⟨#[99]⟩ ⟨#[98]⟩ ⟨#[100]⟩
  below : Below B W wx
  at_ : (x17 = .int .i64 0 ∧ x4 = .slice none 0 0) ∨ ∃ g2 c2, x4 = .slice (some ⟨g2, 0, none⟩) 1 c2 ∧ g ≠ g2 ∧ B ≤ g2 ∧ ((x17 = .int .i64 1 ∧ Two wx g2 ⟨#[97]⟩ ⟨#[99]⟩) ∨ (x17 = .int .i64 2 ∧ Two wx g2 ⟨#[97]⟩ ⟨#[100]⟩))
set_option maxHeartbeats 4000000 in
theorem ordUnion6 (ad : Addr) (B : Nat) (w : World) (h : Rd w B (some ad) (ex6.map Value.string)) (hB : B ≤ w.heap.size) : Calls Try.prog 21 #[.slice (some ad) 3 3] w fun e w' =>
    ∃ g c, e = .returned (.slice (some ⟨g, 0, none⟩) 1 c) ∧ Two w' g ⟨#[97]⟩ ⟨#[100]⟩ ∧ Below w.heap.size w w' := by
  have HC := Lib.hid (ordClone (some ad) 3 3 B ex6 rfl (by decide) (by decide) w h hB)
  clear h
  obtain ⟨i0, hi, hz0, hz1', hz2⟩ := info_parts spanInfo3
  have HI := Lib.hid hi
  clear hi
  go_enter Try.func21, Try.ntmps21
  go_wp2_with (first | (go_at_call 31; go_loud (refine HC.out.mono ?_; rintro e w1 ⟨A1, c1, rfl, ho1, hb1⟩; obtain ⟨g, rfl, hs1, hg⟩ := Six.own (by rfl) rfl ho1; have hc1 : 3 ≤ c1 := (own_capS ho1).1)) | (go_at_call 30; refine (ordDelete g c1 w.heap.size _ hs1 hg hc1).mono ?_; rintro e w2 ⟨⟨c2, rfl⟩, hf2, hb2⟩))
  go_wp2_with ((go_at_call 32; refine (ordSort g c2 w.heap.size _ hf2 hg).mono ?_; rintro e w3 ⟨rfl, hf3, hb3⟩))
  have hz1 := hb1.size
  have HB3 := Lib.hid (hb1.trans ((hb2.trans hb3).mono (Nat.le_refl _)))
  have HF3 := Lib.hid hf3
  clear hf2 hf3 hb1 hb2 hb3 hs1 ho1 HC
  go_loopw [4, 17] (fun x4 x17 wx => Hid (UnI w w.heap.size g x4 x17 wx)) (fun _ x17 _ => 2 - (intOf x17).toNat)
  · exact Lib.hid ⟨HF3.out, HB3.out, .inl ⟨rfl, rfl⟩⟩
  · obtain ⟨HF, HB, hat⟩ := hrel.out
    have r0 := HF.c0
    have r1 := HF.c1
    have r2 := HF.c2
    have r3 := HF.c3
    have hgl := HF.lt
    replace HF := Lib.hid HF
    replace HB := Lib.hid HB
    clear hrel
    rcases hat with ⟨rfl, rfl⟩ | ⟨g2, c4, rfl, hne, hg2, hat⟩
    · go_wp2
      refine wp_region_held_drew (S := (fun _ => True)) (by kernel_rfl) trivial (fun _ => ?_)
      refine wpAnyH_take (i := 0) (v := ?_) rfl (by kernel_rfl) (by kernel_rfl) (by kernel_rfl) (fun _ _ _ h => h) (Or.inl ⟨by rfl, ?_⟩) trivial ?_
      rotate_left
      · intro wS hSw
        go_simp
        try with_reducible rfl
      try simp only [List.getElem_toArray, List.getElem_cons_zero, List.getElem_cons_succ, Act.put, List.setIfInBounds_toArray, List.set_cons_zero, List.set_cons_succ]
      refine wpAnyH_take (i := 1) (v := ?_) rfl (by kernel_rfl) (by kernel_rfl) (by kernel_rfl) (fun _ _ _ h => h) (Or.inl ⟨by rfl, ?_⟩) trivial ?_
      rotate_left
      · intro wS hSw
        go_simp
        try with_reducible rfl
      try simp only [List.getElem_toArray, List.getElem_cons_zero, List.getElem_cons_succ, Act.put, List.setIfInBounds_toArray, List.set_cons_zero, List.set_cons_succ]
      refine wpAnyH_take (i := 2) (v := ?_) rfl (by kernel_rfl) (by kernel_rfl) (by kernel_rfl) (fun _ _ _ h => h) (Or.inl ⟨by rfl, ?_⟩) trivial ?_
      rotate_left
      · intro wS hSw
        go_simp
        try with_reducible rfl
      try simp only [List.getElem_toArray, List.getElem_cons_zero, List.getElem_cons_succ, Act.put, List.setIfInBounds_toArray, List.set_cons_zero, List.set_cons_succ]
      refine wpAnyH_take (i := 3) (v := undef) rfl (by kernel_rfl) (by kernel_rfl) (by kernel_rfl) (fun _ _ _ h => h) (Or.inr ⟨by rfl, rfl⟩) trivial ?_
      try simp only [List.getElem_toArray, List.getElem_cons_zero, List.getElem_cons_succ, Act.put, List.setIfInBounds_toArray, List.set_cons_zero, List.set_cons_succ]
      refine wpAnyH_take (i := 4) (v := undef) rfl (by kernel_rfl) (by kernel_rfl) (by kernel_rfl) (fun _ _ _ h => h) (Or.inr ⟨by rfl, rfl⟩) trivial ?_
      try simp only [List.getElem_toArray, List.getElem_cons_zero, List.getElem_cons_succ, Act.put, List.setIfInBounds_toArray, List.set_cons_zero, List.set_cons_succ]
      refine wpAnyH_take (i := 5) (v := undef) rfl (by kernel_rfl) (by kernel_rfl) (by kernel_rfl) (fun _ _ _ h => h) (Or.inr ⟨by rfl, rfl⟩) trivial ?_
      try simp only [List.getElem_toArray, List.getElem_cons_zero, List.getElem_cons_succ, Act.put, List.setIfInBounds_toArray, List.set_cons_zero, List.set_cons_succ]
      refine wpAnyH_take (i := 6) (v := undef) rfl (by kernel_rfl) (by kernel_rfl) (by kernel_rfl) (fun _ _ _ h => h) (Or.inr ⟨by rfl, rfl⟩) trivial ?_
      try simp only [List.getElem_toArray, List.getElem_cons_zero, List.getElem_cons_succ, Act.put, List.setIfInBounds_toArray, List.set_cons_zero, List.set_cons_succ]
      refine wpAnyH_take (i := 7) (v := undef) rfl (by kernel_rfl) (by kernel_rfl) (by kernel_rfl) (fun _ _ _ h => h) (Or.inr ⟨by rfl, rfl⟩) trivial ?_
      try simp only [List.getElem_toArray, List.getElem_cons_zero, List.getElem_cons_succ, Act.put, List.setIfInBounds_toArray, List.set_cons_zero, List.set_cons_succ]
      refine wpAnyH_take (i := 8) (v := undef) rfl (by kernel_rfl) (by kernel_rfl) (by kernel_rfl) (fun _ _ _ h => h) (Or.inr ⟨by rfl, rfl⟩) trivial ?_
      try simp only [List.getElem_toArray, List.getElem_cons_zero, List.getElem_cons_succ, Act.put, List.setIfInBounds_toArray, List.set_cons_zero, List.set_cons_succ]
      refine wpAnyH_take (i := 9) (v := undef) rfl (by kernel_rfl) (by kernel_rfl) (by kernel_rfl) (fun _ _ _ h => h) (Or.inr ⟨by rfl, rfl⟩) trivial ?_
      try simp only [List.getElem_toArray, List.getElem_cons_zero, List.getElem_cons_succ, Act.put, List.setIfInBounds_toArray, List.set_cons_zero, List.set_cons_succ]
      refine wpAnyH_take (i := 10) (v := undef) rfl (by kernel_rfl) (by kernel_rfl) (by kernel_rfl) (fun _ _ _ h => h) (Or.inr ⟨by rfl, rfl⟩) trivial ?_
      try simp only [List.getElem_toArray, List.getElem_cons_zero, List.getElem_cons_succ, Act.put, List.setIfInBounds_toArray, List.set_cons_zero, List.set_cons_succ]
      refine wpAnyH_take (i := 11) (v := undef) rfl (by kernel_rfl) (by kernel_rfl) (by kernel_rfl) (fun _ _ _ h => h) (Or.inr ⟨by rfl, rfl⟩) trivial ?_
      try simp only [List.getElem_toArray, List.getElem_cons_zero, List.getElem_cons_succ, Act.put, List.setIfInBounds_toArray, List.set_cons_zero, List.set_cons_succ]
      refine wpAnyH_take (i := 12) (v := undef) rfl (by kernel_rfl) (by kernel_rfl) (by kernel_rfl) (fun _ _ _ h => h) (Or.inr ⟨by rfl, rfl⟩) trivial ?_
      try simp only [List.getElem_toArray, List.getElem_cons_zero, List.getElem_cons_succ, Act.put, List.setIfInBounds_toArray, List.set_cons_zero, List.set_cons_succ]
      refine wpAnyH_take (i := 13) (v := undef) rfl (by kernel_rfl) (by kernel_rfl) (by kernel_rfl) (fun _ _ _ h => h) (Or.inr ⟨by rfl, rfl⟩) trivial ?_
      try simp only [List.getElem_toArray, List.getElem_cons_zero, List.getElem_cons_succ, Act.put, List.setIfInBounds_toArray, List.set_cons_zero, List.set_cons_succ]
      refine wpAnyH_take (i := 14) (v := undef) rfl (by kernel_rfl) (by kernel_rfl) (by kernel_rfl) (fun _ _ _ h => h) (Or.inr ⟨by rfl, rfl⟩) trivial ?_
      try simp only [List.getElem_toArray, List.getElem_cons_zero, List.getElem_cons_succ, Act.put, List.setIfInBounds_toArray, List.set_cons_zero, List.set_cons_succ]
      refine wpAnyH_take (i := 15) (v := undef) rfl (by kernel_rfl) (by kernel_rfl) (by kernel_rfl) (fun _ _ _ h => h) (Or.inr ⟨by rfl, rfl⟩) trivial ?_
      try simp only [List.getElem_toArray, List.getElem_cons_zero, List.getElem_cons_succ, Act.put, List.setIfInBounds_toArray, List.set_cons_zero, List.set_cons_succ]
      refine wpAnyH_take (i := 16) (v := undef) rfl (by kernel_rfl) (by kernel_rfl) (by kernel_rfl) (fun _ _ _ h => h) (Or.inr ⟨by rfl, rfl⟩) trivial ?_
      try simp only [List.getElem_toArray, List.getElem_cons_zero, List.getElem_cons_succ, Act.put, List.setIfInBounds_toArray, List.set_cons_zero, List.set_cons_succ]
      refine wpAnyH_take (i := 17) (v := undef) rfl (by kernel_rfl) (by kernel_rfl) (by kernel_rfl) (fun _ _ _ h => h) (Or.inr ⟨by rfl, rfl⟩) trivial ?_
      try simp only [List.getElem_toArray, List.getElem_cons_zero, List.getElem_cons_succ, Act.put, List.setIfInBounds_toArray, List.set_cons_zero, List.set_cons_succ]
      refine wpAnyH_take (i := 18) (v := undef) rfl (by kernel_rfl) (by kernel_rfl) (by kernel_rfl) (fun _ _ _ h => h) (Or.inr ⟨by rfl, rfl⟩) trivial ?_
      try simp only [List.getElem_toArray, List.getElem_cons_zero, List.getElem_cons_succ, Act.put, List.setIfInBounds_toArray, List.set_cons_zero, List.set_cons_succ]
      refine wpAnyH_take (i := 19) (v := undef) rfl (by kernel_rfl) (by kernel_rfl) (by kernel_rfl) (fun _ _ _ h => h) (Or.inr ⟨by rfl, rfl⟩) trivial ?_
      try simp only [List.getElem_toArray, List.getElem_cons_zero, List.getElem_cons_succ, Act.put, List.setIfInBounds_toArray, List.set_cons_zero, List.set_cons_succ]
      refine wpAnyH_take (i := 20) (v := undef) rfl (by kernel_rfl) (by kernel_rfl) (by kernel_rfl) (fun _ _ _ h => h) (Or.inr ⟨by rfl, rfl⟩) trivial ?_
      try simp only [List.getElem_toArray, List.getElem_cons_zero, List.getElem_cons_succ, Act.put, List.setIfInBounds_toArray, List.set_cons_zero, List.set_cons_succ]
      refine wpAnyH_take (i := 21) (v := ?_) rfl (by kernel_rfl) (by kernel_rfl) (by kernel_rfl) (fun _ _ _ h => h) (Or.inl ⟨by rfl, ?_⟩) trivial ?_
      rotate_left
      · intro wS hSw
        go_simp
        try with_reducible rfl
      try simp only [List.getElem_toArray, List.getElem_cons_zero, List.getElem_cons_succ, Act.put, List.setIfInBounds_toArray, List.set_cons_zero, List.set_cons_succ]
      refine wpAnyH_done (by kernel_rfl) ?_ _
      have hrd5 : Rd ((wr.alloc (.cells #[.string ⟨#[97]⟩, .string ⟨#[99]⟩] 26)).alloc (.cells #[.string ⟨#[97]⟩, .string ⟨#[99]⟩] 26)).drew (wr.heap.size + 2) (some ⟨wr.heap.size + 1, 0, none⟩) [.string ⟨#[97]⟩, .string ⟨#[99]⟩] := by
        have := Rd.new (wr.alloc (.cells #[.string ⟨#[97]⟩, .string ⟨#[99]⟩] 26)) #[.string ⟨#[97]⟩, .string ⟨#[99]⟩] 26 (0, 0) (vs := [.string ⟨#[97]⟩, .string ⟨#[99]⟩]) rfl
        have e : (wr.alloc (.cells #[.string ⟨#[97]⟩, .string ⟨#[99]⟩] 26)).heap.size = wr.heap.size + 1 := by simp
        rw [e] at this
        exact this
      go_wp2_with (at_builtin; go_loud (refine wpList_appN rfl (.tmp 59) (.tmp 61) _ rfl wr.heap.size 2 26 i0 _ 32 Try.underlying32 HI.out hz0 hz1' hz2 rfl (by decide) none 0 0 [] rfl (World.ownsRow_nil _ _ _ _) (wr.heap.size + 2) (some ⟨wr.heap.size + 1, 0, none⟩) 1 1 [.string ⟨#[97]⟩, .string ⟨#[99]⟩] rfl rfl hrd5 (by intro u hu; simp at hu; rcases hu with rfl | rfl <;> rfl) (by decide) (by decide) (by simp; omega) ?_; intro A2 c4 w5 ho5 hg5 hb5))
      rw [Nat.zero_add, List.nil_append] at ho5
      obtain ⟨g2, rfl, ht5, hge⟩ := Two.own ho5
      have hbx := ((below_drewN ((Below.refl wr.heap.size wr).alloc (Nat.le_refl _) (.cells #[.string ⟨#[97]⟩, .string ⟨#[99]⟩] 26)) 1).alloc (by simp) _).trans hb5
      exact ⟨Lib.hid ⟨HF.out.below hbx hgl, HB.out.trans (hbx.mono (by omega)), .inr ⟨g2, c4, rfl, by omega, by omega, .inl ⟨rfl, ht5⟩⟩⟩, by decide⟩
    · rcases hat with ⟨rfl, HT⟩ | ⟨rfl, HT⟩
      · replace HT := Lib.hid HT
        have HT1 := Lib.hid (HT.out.below ((Below.refl _ _).alloc (Nat.le_refl _) (.cells #[.string ⟨#[98]⟩, .string ⟨#[100]⟩] 26)) HT.out.lt)
        have HS1 : Hid (Two (wr.alloc (.cells #[.string ⟨#[98]⟩, .string ⟨#[100]⟩] 26)) wr.heap.size ⟨#[98]⟩ ⟨#[100]⟩) := ⟨_, Blk.new _ _ _, rfl, rfl⟩
        have hee := ee_c
        have hlt := lt_bc
        have h00 : IntKind.i64.wrap 0 = 0 := by decide
        go_wp2
        refine wp_region_held_drew (S := (fun wQq => Two wQq g2 ⟨#[97]⟩ ⟨#[99]⟩ ∧ Two wQq wr.heap.size ⟨#[98]⟩ ⟨#[100]⟩)) (by kernel_rfl) (⟨HT1.out.drewN 1, HS1.out.drewN 1⟩) (fun _ => ?_)
        refine wpAnyH_take (i := 0) (v := ?_) rfl (by kernel_rfl) (by kernel_rfl) (by kernel_rfl) (fun _ _ _ h => h) (Or.inl ⟨by rfl, ?_⟩) (⟨HT1.out.drewN 1, HS1.out.drewN 1⟩) ?_
        rotate_left
        · intro wS hSw
          go_simp
          try with_reducible rfl
        try simp only [List.getElem_toArray, List.getElem_cons_zero, List.getElem_cons_succ, Act.put, List.setIfInBounds_toArray, List.set_cons_zero, List.set_cons_succ]
        refine wpAnyH_take (i := 1) (v := ?_) rfl (by kernel_rfl) (by kernel_rfl) (by kernel_rfl) (fun _ _ _ h => h) (Or.inl ⟨by rfl, ?_⟩) (⟨HT1.out.drewN 1, HS1.out.drewN 1⟩) ?_
        rotate_left
        · intro wS hSw
          go_simp
          try with_reducible rfl
        try simp only [List.getElem_toArray, List.getElem_cons_zero, List.getElem_cons_succ, Act.put, List.setIfInBounds_toArray, List.set_cons_zero, List.set_cons_succ]
        refine wpAnyH_take (i := 2) (v := ?_) rfl (by kernel_rfl) (by kernel_rfl) (by kernel_rfl) (fun _ _ _ h => h) (Or.inl ⟨by rfl, ?_⟩) (⟨HT1.out.drewN 1, HS1.out.drewN 1⟩) ?_
        rotate_left
        · intro wS hSw
          go_simp
          try with_reducible rfl
        try simp only [List.getElem_toArray, List.getElem_cons_zero, List.getElem_cons_succ, Act.put, List.setIfInBounds_toArray, List.set_cons_zero, List.set_cons_succ]
        refine wpAnyH_take (i := 3) (v := ?_) rfl (by kernel_rfl) (by kernel_rfl) (by kernel_rfl) (fun _ _ _ h => h) (Or.inl ⟨by rfl, ?_⟩) (⟨HT1.out.drewN 1, HS1.out.drewN 1⟩) ?_
        rotate_left
        · intro wS hSw
          go_simp
          try with_reducible rfl
        try simp only [List.getElem_toArray, List.getElem_cons_zero, List.getElem_cons_succ, Act.put, List.setIfInBounds_toArray, List.set_cons_zero, List.set_cons_succ]
        refine wpAnyH_take (i := 4) (v := ?_) rfl (by kernel_rfl) (by kernel_rfl) (by kernel_rfl) (fun _ _ _ h => h) (Or.inl ⟨by rfl, ?_⟩) (⟨HT1.out.drewN 1, HS1.out.drewN 1⟩) ?_
        rotate_left
        · intro wS hSw
          go_simp
          try with_reducible rfl
        try simp only [List.getElem_toArray, List.getElem_cons_zero, List.getElem_cons_succ, Act.put, List.setIfInBounds_toArray, List.set_cons_zero, List.set_cons_succ]
        refine wpAnyH_take (i := 5) (v := ?_) rfl (by kernel_rfl) (by kernel_rfl) (by kernel_rfl) (fun _ _ _ h => h) (Or.inl ⟨by rfl, ?_⟩) (⟨HT1.out.drewN 1, HS1.out.drewN 1⟩) ?_
        rotate_left
        · intro wS hSw
          go_simp
          try with_reducible rfl
        try simp only [List.getElem_toArray, List.getElem_cons_zero, List.getElem_cons_succ, Act.put, List.setIfInBounds_toArray, List.set_cons_zero, List.set_cons_succ]
        refine wpAnyH_take (i := 6) (v := ?_) rfl (by kernel_rfl) (by kernel_rfl) (by kernel_rfl) (fun _ _ _ h => h) (Or.inl ⟨by rfl, ?_⟩) (⟨HT1.out.drewN 1, HS1.out.drewN 1⟩) ?_
        rotate_left
        · intro wS hSw
          go_simp
          try with_reducible rfl
        try simp only [List.getElem_toArray, List.getElem_cons_zero, List.getElem_cons_succ, Act.put, List.setIfInBounds_toArray, List.set_cons_zero, List.set_cons_succ]
        refine wpAnyH_take (i := 7) (v := ?_) rfl (by kernel_rfl) (by kernel_rfl) (by kernel_rfl) (fun _ _ _ h => h) (Or.inl ⟨by rfl, ?_⟩) (⟨HT1.out.drewN 1, HS1.out.drewN 1⟩) ?_
        rotate_left
        · intro wS hSw
          go_simp
          try with_reducible rfl
        try simp only [List.getElem_toArray, List.getElem_cons_zero, List.getElem_cons_succ, Act.put, List.setIfInBounds_toArray, List.set_cons_zero, List.set_cons_succ]
        refine wpAnyH_take (i := 8) (v := ?_) rfl (by kernel_rfl) (by kernel_rfl) (by kernel_rfl) (fun _ _ _ h => h) (Or.inl ⟨by rfl, ?_⟩) (⟨HT1.out.drewN 1, HS1.out.drewN 1⟩) ?_
        rotate_left
        · intro wS hSw
          have hcv := hSw.1.c1
          go_simp
          try with_reducible rfl
        try simp only [List.getElem_toArray, List.getElem_cons_zero, List.getElem_cons_succ, Act.put, List.setIfInBounds_toArray, List.set_cons_zero, List.set_cons_succ]
        refine wpAnyH_take (i := 9) (v := ?_) rfl (by kernel_rfl) (by kernel_rfl) (by kernel_rfl) (fun _ _ _ h => h) (Or.inl ⟨by rfl, ?_⟩) (⟨HT1.out.drewN 1, HS1.out.drewN 1⟩) ?_
        rotate_left
        · intro wS hSw
          go_simp
          try with_reducible rfl
        try simp only [List.getElem_toArray, List.getElem_cons_zero, List.getElem_cons_succ, Act.put, List.setIfInBounds_toArray, List.set_cons_zero, List.set_cons_succ]
        refine wpAnyH_take (i := 10) (v := ?_) rfl (by kernel_rfl) (by kernel_rfl) (by kernel_rfl) (fun _ _ _ h => h) (Or.inl ⟨by rfl, ?_⟩) (⟨HT1.out.drewN 1, HS1.out.drewN 1⟩) ?_
        rotate_left
        · intro wS hSw
          go_simp
          try with_reducible rfl
        try simp only [List.getElem_toArray, List.getElem_cons_zero, List.getElem_cons_succ, Act.put, List.setIfInBounds_toArray, List.set_cons_zero, List.set_cons_succ]
        refine wpAnyH_take (i := 11) (v := ?_) rfl (by kernel_rfl) (by kernel_rfl) (by kernel_rfl) (fun _ _ _ h => h) (Or.inl ⟨by rfl, ?_⟩) (⟨HT1.out.drewN 1, HS1.out.drewN 1⟩) ?_
        rotate_left
        · intro wS hSw
          go_simp
          try with_reducible rfl
        try simp only [List.getElem_toArray, List.getElem_cons_zero, List.getElem_cons_succ, Act.put, List.setIfInBounds_toArray, List.set_cons_zero, List.set_cons_succ]
        refine wpAnyH_take (i := 13) (v := ?_) rfl (by kernel_rfl) (by kernel_rfl) (by kernel_rfl) (fun _ _ _ h => h) (Or.inl ⟨by rfl, ?_⟩) (⟨HT1.out.drewN 1, HS1.out.drewN 1⟩) ?_
        rotate_left
        · intro wS hSw
          go_simp
          try with_reducible rfl
        try simp only [List.getElem_toArray, List.getElem_cons_zero, List.getElem_cons_succ, Act.put, List.setIfInBounds_toArray, List.set_cons_zero, List.set_cons_succ]
        refine wpAnyH_take (i := 14) (v := ?_) rfl (by kernel_rfl) (by kernel_rfl) (by kernel_rfl) (fun _ _ _ h => h) (Or.inl ⟨by rfl, ?_⟩) (⟨HT1.out.drewN 1, HS1.out.drewN 1⟩) ?_
        rotate_left
        · intro wS hSw
          go_simp
          try with_reducible rfl
        try simp only [List.getElem_toArray, List.getElem_cons_zero, List.getElem_cons_succ, Act.put, List.setIfInBounds_toArray, List.set_cons_zero, List.set_cons_succ]
        refine wpAnyH_take (i := 15) (v := ?_) rfl (by kernel_rfl) (by kernel_rfl) (by kernel_rfl) (fun _ _ _ h => h) (Or.inl ⟨by rfl, ?_⟩) (⟨HT1.out.drewN 1, HS1.out.drewN 1⟩) ?_
        rotate_left
        · intro wS hSw
          go_simp
          try with_reducible rfl
        try simp only [List.getElem_toArray, List.getElem_cons_zero, List.getElem_cons_succ, Act.put, List.setIfInBounds_toArray, List.set_cons_zero, List.set_cons_succ]
        refine wpAnyH_take (i := 16) (v := ?_) rfl (by kernel_rfl) (by kernel_rfl) (by kernel_rfl) (fun _ _ _ h => h) (Or.inl ⟨by rfl, ?_⟩) (⟨HT1.out.drewN 1, HS1.out.drewN 1⟩) ?_
        rotate_left
        · intro wS hSw
          go_simp
          try with_reducible rfl
        try simp only [List.getElem_toArray, List.getElem_cons_zero, List.getElem_cons_succ, Act.put, List.setIfInBounds_toArray, List.set_cons_zero, List.set_cons_succ]
        refine wpAnyH_take (i := 17) (v := ?_) rfl (by kernel_rfl) (by kernel_rfl) (by kernel_rfl) (fun _ _ _ h => h) (Or.inl ⟨by rfl, ?_⟩) (⟨HT1.out.drewN 1, HS1.out.drewN 1⟩) ?_
        rotate_left
        · intro wS hSw
          go_simp
          try with_reducible rfl
        try simp only [List.getElem_toArray, List.getElem_cons_zero, List.getElem_cons_succ, Act.put, List.setIfInBounds_toArray, List.set_cons_zero, List.set_cons_succ]
        refine wpAnyH_take (i := 12) (v := ?_) rfl (by kernel_rfl) (by kernel_rfl) (by kernel_rfl) (fun _ _ _ h => h) (Or.inl ⟨by rfl, ?_⟩) (⟨HT1.out.drewN 1, HS1.out.drewN 1⟩) ?_
        rotate_left
        · intro wS hSw
          have hcv := hSw.2.c0
          go_simp
          try with_reducible rfl
        try simp only [List.getElem_toArray, List.getElem_cons_zero, List.getElem_cons_succ, Act.put, List.setIfInBounds_toArray, List.set_cons_zero, List.set_cons_succ]
        refine wpAnyH_take (i := 18) (v := ?_) rfl (by kernel_rfl) (by kernel_rfl) (by kernel_rfl) (fun _ _ _ h => h) (Or.inl ⟨by rfl, ?_⟩) (⟨HT1.out.drewN 1, HS1.out.drewN 1⟩) ?_
        rotate_left
        · intro wS hSw
          have hcv := hSw.1.c1
          go_simp
          try with_reducible rfl
        try simp only [List.getElem_toArray, List.getElem_cons_zero, List.getElem_cons_succ, Act.put, List.setIfInBounds_toArray, List.set_cons_zero, List.set_cons_succ]
        refine wpAnyH_take (i := 19) (v := ?_) rfl (by kernel_rfl) (by kernel_rfl) (by kernel_rfl) (fun _ _ _ h => h) (Or.inl ⟨by rfl, ?_⟩) (⟨HT1.out.drewN 1, HS1.out.drewN 1⟩) ?_
        rotate_left
        · intro wS hSw
          go_simp
          try with_reducible rfl
        try simp only [List.getElem_toArray, List.getElem_cons_zero, List.getElem_cons_succ, Act.put, List.setIfInBounds_toArray, List.set_cons_zero, List.set_cons_succ]
        refine wpAnyH_take (i := 20) (v := ?_) rfl (by kernel_rfl) (by kernel_rfl) (by kernel_rfl) (fun _ _ _ h => h) (Or.inl ⟨by rfl, ?_⟩) (⟨HT1.out.drewN 1, HS1.out.drewN 1⟩) ?_
        rotate_left
        · intro wS hSw
          go_simp
          try with_reducible rfl
        try simp only [List.getElem_toArray, List.getElem_cons_zero, List.getElem_cons_succ, Act.put, List.setIfInBounds_toArray, List.set_cons_zero, List.set_cons_succ]
        refine wpAnyH_take (i := 21) (v := ?_) rfl (by kernel_rfl) (by kernel_rfl) (by kernel_rfl) (fun _ _ _ h => h) (Or.inl ⟨by rfl, ?_⟩) (⟨HT1.out.drewN 1, HS1.out.drewN 1⟩) ?_
        rotate_left
        · intro wS hSw
          go_simp
          try with_reducible rfl
        try simp only [List.getElem_toArray, List.getElem_cons_zero, List.getElem_cons_succ, Act.put, List.setIfInBounds_toArray, List.set_cons_zero, List.set_cons_succ]
        refine wpAnyH_done (by kernel_rfl) ?_ _
        go_wp2
        have hw4 : ∃ w4, (wr.alloc (.cells #[.string ⟨#[98]⟩, .string ⟨#[100]⟩] 26)).drew = w4 ∧ Two w4 g2 ⟨#[97]⟩ ⟨#[99]⟩ ∧ Two w4 wr.heap.size ⟨#[98]⟩ ⟨#[100]⟩ ∧ Four w4 g ⟨#[97]⟩ ⟨#[99]⟩ ⟨#[98]⟩ ⟨#[100]⟩ ∧ Below wr.heap.size wr w4 := ⟨_, rfl, HT1.out.drewN 1, HS1.out.drewN 1, (HF.out.below ((Below.refl _ _).alloc (Nat.le_refl _) _) hgl).drewN 1, below_drewN ((Below.refl wr.heap.size wr).alloc (Nat.le_refl _) _) 1⟩
        obtain ⟨w4, hw4, ht4, hs4, hf4, hb4⟩ := hw4
        rw [hw4]
        have d1 := ht4.c1
        have d2 := ht4.fr 1
        have d3 := hs4.c1
        have HT4 := Lib.hid ht4
        have HF4 := Lib.hid hf4
        have HB4 := Lib.hid hb4
        clear ht4 hs4 hf4 hb4 hw4 HS1 HT1
        have hhi := fun W => ordHi ⟨#[99]⟩ ⟨#[100]⟩ W
        rw [hi_cd] at hhi
        go_region_with (go_at_call 34; refine (hhi _).mono ?_; rintro e w' ⟨rfl, rfl⟩)
        all_goals (try go_wp2)
        all_goals exact ⟨Lib.hid ⟨(HF4.out.far (p := ⟨g2, 1, none⟩) hne _).drewN 1, below_drewN ((HB.out.trans (HB4.out.mono (by omega))).setCell hg2 _) 1, .inr ⟨g2, c4, rfl, hne, hg2, .inr ⟨rfl, (HT4.out.to _).drewN 1⟩⟩⟩, by decide⟩
      · go_wp2
        go_ret
        exact ⟨g2, c4, rfl, HT, HB.out⟩
end Cib
