/- Order: the callees of Union at the page's example. -/
import Derived.Test.YtijinfmokbaahaaOrdF
import Derived.Lib.Bytealg
import Derived.Laws.Externs
set_option linter.unusedVariables false
set_option linter.unusedSimpArgs false
set_option maxRecDepth 20000
namespace Cib
open Go Go.RowKit Go.Proofs
theorem strCmp0 (a b : ByteArray) (w : World) : Calls Try.prog 54 #[.string a, .string b] w fun e w' => e = .returned (.int .i64 (Lib.compareBytes a.data.toList b.data.toList)) ∧ w' = w := by
  go_enter Try.func54, Try.ntmps54
  go_wp2
  rw [run_callFunc_extern (f := 60) (P := Try.prog) (fn := Try.f60) (by kernel_rfl) (by kernel_rfl) (by kernel_rfl) (e := Extern.BytealgCompare.compare) (by kernel_rfl) (by kernel_rfl), Lib.run_compareString]
  simp only [Result.andThen]
  rw [Oper.upon_value]
  go_wp2
  go_ret
  exact ⟨rfl, rfl⟩
theorem strCmp (a b : ByteArray) (w : World) : Calls Try.prog 43 #[.string a, .string b] w fun e w' => e = .returned (.int .i64 (Lib.compareBytes a.data.toList b.data.toList)) ∧ w' = w := by
  go_enter Try.func43, Try.ntmps43
  go_wp2_with (go_at_call 54; refine (strCmp0 _ _ _).mono ?_; rintro e w' ⟨rfl, rfl⟩)
  go_ret
  exact ⟨rfl, rfl⟩
set_option maxHeartbeats 1000000 in
theorem ordCompare (a b c d : ByteArray) (W : World) : Calls Try.prog 33 #[.agg #[], sp (a, b), sp (c, d)] W fun e w' => e = .returned (.int .i64 (Lib.compareBytes a.data.toList c.data.toList)) ∧ Below W.heap.size W w' := by
  unfold sp
  dsimp only
  have hc := fun W => strCmp a c W
  generalize Lib.compareBytes a.data.toList c.data.toList = r at hc ⊢
  go_enter Try.func33, Try.ntmps33
  go_wp2_with (go_at_call 43; refine (hc _).mono ?_; rintro e w' ⟨rfl, rfl⟩)
  go_ret
  exact ⟨rfl, (((Below.refl _ _).alloc (Nat.le_refl _) _).alloc (by simp) _).alloc (by simp; omega) _⟩
/-- The first two spans of a row. -/
def Four (w : World) (g : Nat) (a b c d : ByteArray) : Prop := ∃ cs, Blk w g 26 cs ∧ cs[0]? = some (.string a) ∧ cs[1]? = some (.string b) ∧ cs[2]? = some (.string c) ∧ cs[3]? = some (.string d)
section
variable {w w' : World} {g : Nat} {a b c d : ByteArray}
theorem Four.c0 (h : Four w g a b c d) : w.cell? ⟨g, 0, none⟩ = some (.string a) := by obtain ⟨cs, h, h0, h1, h2, h3⟩ := h; exact (h.cell 0).trans h0
theorem Four.c1 (h : Four w g a b c d) : w.cell? ⟨g, 1, none⟩ = some (.string b) := by obtain ⟨cs, h, h0, h1, h2, h3⟩ := h; exact (h.cell 1).trans h1
theorem Four.c2 (h : Four w g a b c d) : w.cell? ⟨g, 2, none⟩ = some (.string c) := by obtain ⟨cs, h, h0, h1, h2, h3⟩ := h; exact (h.cell 2).trans h2
theorem Four.c3 (h : Four w g a b c d) : w.cell? ⟨g, 3, none⟩ = some (.string d) := by obtain ⟨cs, h, h0, h1, h2, h3⟩ := h; exact (h.cell 3).trans h3
theorem Four.fr (h : Four w g a b c d) (i : Nat) : w.frozen? ⟨g, i, none⟩ = false := by obtain ⟨cs, h, _⟩ := h; exact h.frozen i
theorem Four.lt (h : Four w g a b c d) : g < w.heap.size := by obtain ⟨cs, h, _⟩ := h; exact h.lt
theorem Four.below {B : Nat} (h : Four w g a b c d) (hb : Below B w w') (hg : g < B) : Four w' g a b c d := by obtain ⟨cs, h, h'⟩ := h; exact ⟨cs, h.below hb hg, h'⟩
theorem Four.drewN (h : Four w g a b c d) (n : Nat) : Four (w.drewN n) g a b c d := h
theorem Four.swap (h : Four w g a b c d) (p q r s : ByteArray) : Four ((((w.setCell ⟨g, 2, none⟩ (.string p)).setCell ⟨g, 3, none⟩ (.string q)).setCell ⟨g, 0, none⟩ (.string r)).setCell ⟨g, 1, none⟩ (.string s)) g r s p q := by
  obtain ⟨cs, h, h0, h1, h2, h3⟩ := h
  have l3 : 3 < cs.size := (Array.getElem?_eq_some_iff.1 h3).1
  refine ⟨_, (((h.set 2 _).set 3 _).set 0 _).set 1 _, ?_, ?_, ?_, ?_⟩
  all_goals simp [Array.getElem?_setIfInBounds, l3, show 0 < cs.size by omega, show 1 < cs.size by omega, show 2 < cs.size by omega]
end
/-- What sorts spans: the method's value. -/
def cmpV : Value := .func (.func 33) #[.agg #[]] #[]
set_option maxHeartbeats 4000000 in
theorem ordInsert (g c B : Nat) (w : World) (h : Four w g ⟨#[98]⟩ ⟨#[100]⟩ ⟨#[97]⟩ ⟨#[99]⟩) (hg : B ≤ g) : Calls Try.prog 44 #[.slice (some ⟨g, 0, none⟩) 2 c, .int .i64 0, .int .i64 2, cmpV] w fun e w' =>
    e = .returned (.tuple #[]) ∧ Four w' g ⟨#[97]⟩ ⟨#[99]⟩ ⟨#[98]⟩ ⟨#[100]⟩ ∧ Below B w w' := by
  unfold cmpV
  go_enter Try.func44, Try.ntmps44
  go_wp2
  go_loopw [8] (fun x8 wx => (x8 = .int .i64 1 ∧ Hid (Four wx g ⟨#[98]⟩ ⟨#[100]⟩ ⟨#[97]⟩ ⟨#[99]⟩) ∧ Hid (Below B w wx)) ∨ (x8 = .int .i64 2 ∧ Hid (Four wx g ⟨#[97]⟩ ⟨#[99]⟩ ⟨#[98]⟩ ⟨#[100]⟩) ∧ Hid (Below B w wx))) (fun x8 _ => 2 - (intOf x8).toNat)
  · exact .inl ⟨rfl, Lib.hid h, Lib.hid (Below.refl _ _)⟩
  · rcases hrel with ⟨rfl, HF, HB⟩ | ⟨rfl, HF, HB⟩
    · go_wp2
      go_loopw [9] (fun x9 wx => (x9 = .int .i64 1 ∧ Hid (Four wx g ⟨#[98]⟩ ⟨#[100]⟩ ⟨#[97]⟩ ⟨#[99]⟩) ∧ Hid (Below B w wx)) ∨ (x9 = .int .i64 0 ∧ Hid (Four wx g ⟨#[97]⟩ ⟨#[99]⟩ ⟨#[98]⟩ ⟨#[100]⟩) ∧ Hid (Below B w wx))) (fun x9 _ => (intOf x9).toNat)
      · exact .inl ⟨rfl, HF, HB⟩
      · rcases hrel with ⟨rfl, HF2, HB2⟩ | ⟨rfl, HF2, HB2⟩
        · have h00 : IntKind.i64.wrap 0 = 0 := by decide
          go_wp2
          refine wp_region_held_drew (S := (fun wQq => Four wQq g ⟨#[98]⟩ ⟨#[100]⟩ ⟨#[97]⟩ ⟨#[99]⟩ ∧ Below B w wQq)) (by kernel_rfl) (⟨HF2.out, below_drewN HB2.out 1⟩) (fun _ => ?_)
          refine wpAnyH_take (i := 0) (v := ?_) rfl (by kernel_rfl) (by kernel_rfl) (by kernel_rfl) (fun _ _ _ h => h) (Or.inl ⟨by rfl, ?_⟩) (⟨HF2.out, below_drewN HB2.out 1⟩) ?_
          rotate_left
          · intro wS hSw
            go_simp
            try with_reducible rfl
          try simp only [List.getElem_toArray, List.getElem_cons_zero, List.getElem_cons_succ, Act.put, List.setIfInBounds_toArray, List.set_cons_zero, List.set_cons_succ]
          refine wpAnyH_take (i := 1) (v := ?_) rfl (by kernel_rfl) (by kernel_rfl) (by kernel_rfl) (fun _ _ _ h => h) (Or.inl ⟨by rfl, ?_⟩) (⟨HF2.out, below_drewN HB2.out 1⟩) ?_
          rotate_left
          · intro wS hSw
            go_simp
            try with_reducible rfl
          try simp only [List.getElem_toArray, List.getElem_cons_zero, List.getElem_cons_succ, Act.put, List.setIfInBounds_toArray, List.set_cons_zero, List.set_cons_succ]
          refine wpAnyH_take (i := 2) (v := ?_) rfl (by kernel_rfl) (by kernel_rfl) (by kernel_rfl) (fun _ _ _ h => h) (Or.inl ⟨by rfl, ?_⟩) (⟨HF2.out, below_drewN HB2.out 1⟩) ?_
          rotate_left
          · intro wS hSw
            go_simp
            try with_reducible rfl
          try simp only [List.getElem_toArray, List.getElem_cons_zero, List.getElem_cons_succ, Act.put, List.setIfInBounds_toArray, List.set_cons_zero, List.set_cons_succ]
          refine wpAnyH_take (i := 3) (v := ?_) rfl (by kernel_rfl) (by kernel_rfl) (by kernel_rfl) (fun _ _ _ h => h) (Or.inl ⟨by rfl, ?_⟩) (⟨HF2.out, below_drewN HB2.out 1⟩) ?_
          rotate_left
          · intro wS hSw
            go_simp
            try with_reducible rfl
          try simp only [List.getElem_toArray, List.getElem_cons_zero, List.getElem_cons_succ, Act.put, List.setIfInBounds_toArray, List.set_cons_zero, List.set_cons_succ]
          refine wpAnyH_take (i := 4) (v := ?_) rfl (by kernel_rfl) (by kernel_rfl) (by kernel_rfl) (fun _ _ _ h => h) (Or.inl ⟨by rfl, ?_⟩) (⟨HF2.out, below_drewN HB2.out 1⟩) ?_
          rotate_left
          · intro wS hSw
            go_simp
            try with_reducible rfl
          try simp only [List.getElem_toArray, List.getElem_cons_zero, List.getElem_cons_succ, Act.put, List.setIfInBounds_toArray, List.set_cons_zero, List.set_cons_succ]
          refine wpAnyH_take (i := 5) (v := ?_) rfl (by kernel_rfl) (by kernel_rfl) (by kernel_rfl) (fun _ _ _ h => h) (Or.inl ⟨by rfl, ?_⟩) (⟨HF2.out, below_drewN HB2.out 1⟩) ?_
          rotate_left
          · intro wS hSw
            go_simp
            try with_reducible rfl
          try simp only [List.getElem_toArray, List.getElem_cons_zero, List.getElem_cons_succ, Act.put, List.setIfInBounds_toArray, List.set_cons_zero, List.set_cons_succ]
          refine wpAnyH_take (i := 6) (v := ?_) rfl (by kernel_rfl) (by kernel_rfl) (by kernel_rfl) (fun _ _ _ h => h) (Or.inl ⟨by rfl, ?_⟩) (⟨HF2.out, below_drewN HB2.out 1⟩) ?_
          rotate_left
          · intro wS hSw
            go_simp
            try with_reducible rfl
          try simp only [List.getElem_toArray, List.getElem_cons_zero, List.getElem_cons_succ, Act.put, List.setIfInBounds_toArray, List.set_cons_zero, List.set_cons_succ]
          refine wpAnyH_take (i := 7) (v := ?_) rfl (by kernel_rfl) (by kernel_rfl) (by kernel_rfl) (fun _ _ _ h => h) (Or.inl ⟨by rfl, ?_⟩) (⟨HF2.out, below_drewN HB2.out 1⟩) ?_
          rotate_left
          · intro wS hSw
            go_simp
            try with_reducible rfl
          try simp only [List.getElem_toArray, List.getElem_cons_zero, List.getElem_cons_succ, Act.put, List.setIfInBounds_toArray, List.set_cons_zero, List.set_cons_succ]
          refine wpAnyH_take (i := 9) (v := ?_) rfl (by kernel_rfl) (by kernel_rfl) (by kernel_rfl) (fun _ _ _ h => h) (Or.inl ⟨by rfl, ?_⟩) (⟨HF2.out, below_drewN HB2.out 1⟩) ?_
          rotate_left
          · intro wS hSw
            go_simp
            try with_reducible rfl
          try simp only [List.getElem_toArray, List.getElem_cons_zero, List.getElem_cons_succ, Act.put, List.setIfInBounds_toArray, List.set_cons_zero, List.set_cons_succ]
          refine wpAnyH_take (i := 10) (v := ?_) rfl (by kernel_rfl) (by kernel_rfl) (by kernel_rfl) (fun _ _ _ h => h) (Or.inl ⟨by rfl, ?_⟩) (⟨HF2.out, below_drewN HB2.out 1⟩) ?_
          rotate_left
          · intro wS hSw
            go_simp
            try with_reducible rfl
          try simp only [List.getElem_toArray, List.getElem_cons_zero, List.getElem_cons_succ, Act.put, List.setIfInBounds_toArray, List.set_cons_zero, List.set_cons_succ]
          refine wpAnyH_take (i := 11) (v := ?_) rfl (by kernel_rfl) (by kernel_rfl) (by kernel_rfl) (fun _ _ _ h => h) (Or.inl ⟨by rfl, ?_⟩) (⟨HF2.out, below_drewN HB2.out 1⟩) ?_
          rotate_left
          · intro wS hSw
            go_simp
            try with_reducible rfl
          try simp only [List.getElem_toArray, List.getElem_cons_zero, List.getElem_cons_succ, Act.put, List.setIfInBounds_toArray, List.set_cons_zero, List.set_cons_succ]
          refine wpAnyH_take (i := 12) (v := ?_) rfl (by kernel_rfl) (by kernel_rfl) (by kernel_rfl) (fun _ _ _ h => h) (Or.inl ⟨by rfl, ?_⟩) (⟨HF2.out, below_drewN HB2.out 1⟩) ?_
          rotate_left
          · intro wS hSw
            go_simp
            try with_reducible rfl
          try simp only [List.getElem_toArray, List.getElem_cons_zero, List.getElem_cons_succ, Act.put, List.setIfInBounds_toArray, List.set_cons_zero, List.set_cons_succ]
          refine wpAnyH_take (i := 8) (v := ?_) rfl (by kernel_rfl) (by kernel_rfl) (by kernel_rfl) (fun _ _ _ h => h) (Or.inl ⟨by rfl, ?_⟩) (⟨HF2.out, below_drewN HB2.out 1⟩) ?_
          rotate_left
          · intro wS hSw
            have hcv := hSw.1.c2
            have hcv2 := hSw.1.c3
            go_simp
            try with_reducible rfl
          try simp only [List.getElem_toArray, List.getElem_cons_zero, List.getElem_cons_succ, Act.put, List.setIfInBounds_toArray, List.set_cons_zero, List.set_cons_succ]
          refine wpAnyH_take (i := 13) (v := ?_) rfl (by kernel_rfl) (by kernel_rfl) (by kernel_rfl) (fun _ _ _ h => h) (Or.inl ⟨by rfl, ?_⟩) (⟨HF2.out, below_drewN HB2.out 1⟩) ?_
          rotate_left
          · intro wS hSw
            have hcv := hSw.1.c0
            have hcv2 := hSw.1.c1
            go_simp
            try with_reducible rfl
          try simp only [List.getElem_toArray, List.getElem_cons_zero, List.getElem_cons_succ, Act.put, List.setIfInBounds_toArray, List.set_cons_zero, List.set_cons_succ]
          refine wpAnyH_ready (rs := [14]) (by kernel_rfl) (by simp) ?_
          refine AllReadyH.cons rfl (fun K hK => ?_) AllReadyH.nil
          go_simp
          refine (ordCompare ⟨#[97]⟩ ⟨#[99]⟩ ⟨#[98]⟩ ⟨#[100]⟩ _).mono ?_
          rintro e w3 ⟨rfl, hb3⟩
          have HF3 := Lib.hid ((HF2.out.drewN 1).below hb3 HF2.out.lt)
          have HB3 := Lib.hid ((below_drewN HB2.out 1).trans (hb3.mono (by have := HF2.out.lt; show B ≤ wr.heap.size; omega)))
          clear hb3
          refine hK.out _ _ ⟨HF3.out, HB3.out⟩ (fun _ => ?_)
          clear hK K
          try simp only [List.getElem_toArray, List.getElem_cons_zero, List.getElem_cons_succ, Act.put, List.setIfInBounds_toArray, List.set_cons_zero, List.set_cons_succ]
          refine wpAnyH_take (i := 15) (v := ?_) rfl (by kernel_rfl) (by kernel_rfl) (by kernel_rfl) (fun _ _ _ h => h) (Or.inl ⟨by rfl, ?_⟩) ⟨HF3.out, HB3.out⟩ ?_
          rotate_left
          · intro wS hSw
            go_simp
            try with_reducible rfl
          try simp only [List.getElem_toArray, List.getElem_cons_zero, List.getElem_cons_succ, Act.put, List.setIfInBounds_toArray, List.set_cons_zero, List.set_cons_succ]
          refine wpAnyH_take (i := 16) (v := ?_) rfl (by kernel_rfl) (by kernel_rfl) (by kernel_rfl) (fun _ _ _ h => h) (Or.inl ⟨by rfl, ?_⟩) ⟨HF3.out, HB3.out⟩ ?_
          rotate_left
          · intro wS hSw
            go_simp
            try with_reducible rfl
          try simp only [List.getElem_toArray, List.getElem_cons_zero, List.getElem_cons_succ, Act.put, List.setIfInBounds_toArray, List.set_cons_zero, List.set_cons_succ]
          refine wpAnyH_done (by kernel_rfl) ?_ _
          go_wp2
          have d0 := HF3.out.c0
          have d1 := HF3.out.c1
          have d2 := HF3.out.c2
          have d3 := HF3.out.c3
          have f0 := HF3.out.fr 0
          have f1 := HF3.out.fr 1
          have f2 := HF3.out.fr 2
          have f3 := HF3.out.fr 3
          go_region
          all_goals (try go_wp2)
          exact ⟨.inr ⟨rfl, Lib.hid ((HF3.out.swap _ _ _ _).drewN 1), Lib.hid (below_drewN ((((HB3.out.setCell hg _).setCell hg _).setCell hg _).setCell hg _) 1)⟩, by decide⟩
        · go_wp2
          refine wp_region_held_drew (S := (fun _ => True)) (by kernel_rfl) trivial (fun _ => ?_)
          refine wpAnyH_take (i := 0) (v := ?_) rfl (by kernel_rfl) (by kernel_rfl) (by kernel_rfl) (fun _ _ _ h => h) (Or.inl ⟨by rfl, ?_⟩) trivial ?_
          rotate_left
          · intro wS hSw
            go_simp
            try with_reducible rfl
          try simp only [List.getElem_toArray, List.getElem_cons_zero, List.getElem_cons_succ, Act.put, List.setIfInBounds_toArray, List.set_cons_zero, List.set_cons_succ]
          refine wpAnyH_take (i := 1) (v := ?_) rfl (by kernel_rfl) (by kernel_rfl) (by kernel_rfl) (fun _ _ _ h => h) (Or.inl ⟨by rfl, ?_⟩) trivial ?_
          rotate_left
          · intro wS hSw
            go_simp
            try with_reducible rfl
          try simp only [List.getElem_toArray, List.getElem_cons_zero, List.getElem_cons_succ, Act.put, List.setIfInBounds_toArray, List.set_cons_zero, List.set_cons_succ]
          refine wpAnyH_take (i := 2) (v := ?_) rfl (by kernel_rfl) (by kernel_rfl) (by kernel_rfl) (fun _ _ _ h => h) (Or.inl ⟨by rfl, ?_⟩) trivial ?_
          rotate_left
          · intro wS hSw
            go_simp
            try with_reducible rfl
          try simp only [List.getElem_toArray, List.getElem_cons_zero, List.getElem_cons_succ, Act.put, List.setIfInBounds_toArray, List.set_cons_zero, List.set_cons_succ]
          refine wpAnyH_take (i := 3) (v := ?_) rfl (by kernel_rfl) (by kernel_rfl) (by kernel_rfl) (fun _ _ _ h => h) (Or.inl ⟨by rfl, ?_⟩) trivial ?_
          rotate_left
          · intro wS hSw
            go_simp
            try with_reducible rfl
          try simp only [List.getElem_toArray, List.getElem_cons_zero, List.getElem_cons_succ, Act.put, List.setIfInBounds_toArray, List.set_cons_zero, List.set_cons_succ]
          refine wpAnyH_take (i := 4) (v := undef) rfl (by kernel_rfl) (by kernel_rfl) (by kernel_rfl) (fun _ _ _ h => h) (Or.inr ⟨by rfl, rfl⟩) trivial ?_
          try simp only [List.getElem_toArray, List.getElem_cons_zero, List.getElem_cons_succ, Act.put, List.setIfInBounds_toArray, List.set_cons_zero, List.set_cons_succ]
          refine wpAnyH_take (i := 5) (v := undef) rfl (by kernel_rfl) (by kernel_rfl) (by kernel_rfl) (fun _ _ _ h => h) (Or.inr ⟨by rfl, rfl⟩) trivial ?_
          try simp only [List.getElem_toArray, List.getElem_cons_zero, List.getElem_cons_succ, Act.put, List.setIfInBounds_toArray, List.set_cons_zero, List.set_cons_succ]
          refine wpAnyH_take (i := 6) (v := undef) rfl (by kernel_rfl) (by kernel_rfl) (by kernel_rfl) (fun _ _ _ h => h) (Or.inr ⟨by rfl, rfl⟩) trivial ?_
          try simp only [List.getElem_toArray, List.getElem_cons_zero, List.getElem_cons_succ, Act.put, List.setIfInBounds_toArray, List.set_cons_zero, List.set_cons_succ]
          refine wpAnyH_take (i := 7) (v := undef) rfl (by kernel_rfl) (by kernel_rfl) (by kernel_rfl) (fun _ _ _ h => h) (Or.inr ⟨by rfl, rfl⟩) trivial ?_
          try simp only [List.getElem_toArray, List.getElem_cons_zero, List.getElem_cons_succ, Act.put, List.setIfInBounds_toArray, List.set_cons_zero, List.set_cons_succ]
          refine wpAnyH_take (i := 8) (v := undef) rfl (by kernel_rfl) (by kernel_rfl) (by kernel_rfl) (fun _ _ _ h => h) (Or.inr ⟨by rfl, rfl⟩) trivial ?_
          try simp only [List.getElem_toArray, List.getElem_cons_zero, List.getElem_cons_succ, Act.put, List.setIfInBounds_toArray, List.set_cons_zero, List.set_cons_succ]
          refine wpAnyH_take (i := 9) (v := undef) rfl (by kernel_rfl) (by kernel_rfl) (by kernel_rfl) (fun _ _ _ h => h) (Or.inr ⟨by rfl, rfl⟩) trivial ?_
          try simp only [List.getElem_toArray, List.getElem_cons_zero, List.getElem_cons_succ, Act.put, List.setIfInBounds_toArray, List.set_cons_zero, List.set_cons_succ]
          refine wpAnyH_take (i := 10) (v := undef) rfl (by kernel_rfl) (by kernel_rfl) (by kernel_rfl) (fun _ _ _ h => h) (Or.inr ⟨by rfl, rfl⟩) trivial ?_
          try simp only [List.getElem_toArray, List.getElem_cons_zero, List.getElem_cons_succ, Act.put, List.setIfInBounds_toArray, List.set_cons_zero, List.set_cons_succ]
          refine wpAnyH_take (i := 11) (v := undef) rfl (by kernel_rfl) (by kernel_rfl) (by kernel_rfl) (fun _ _ _ h => h) (Or.inr ⟨by rfl, rfl⟩) trivial ?_
          try simp only [List.getElem_toArray, List.getElem_cons_zero, List.getElem_cons_succ, Act.put, List.setIfInBounds_toArray, List.set_cons_zero, List.set_cons_succ]
          refine wpAnyH_take (i := 12) (v := undef) rfl (by kernel_rfl) (by kernel_rfl) (by kernel_rfl) (fun _ _ _ h => h) (Or.inr ⟨by rfl, rfl⟩) trivial ?_
          try simp only [List.getElem_toArray, List.getElem_cons_zero, List.getElem_cons_succ, Act.put, List.setIfInBounds_toArray, List.set_cons_zero, List.set_cons_succ]
          refine wpAnyH_take (i := 13) (v := undef) rfl (by kernel_rfl) (by kernel_rfl) (by kernel_rfl) (fun _ _ _ h => h) (Or.inr ⟨by rfl, rfl⟩) trivial ?_
          try simp only [List.getElem_toArray, List.getElem_cons_zero, List.getElem_cons_succ, Act.put, List.setIfInBounds_toArray, List.set_cons_zero, List.set_cons_succ]
          refine wpAnyH_take (i := 14) (v := undef) rfl (by kernel_rfl) (by kernel_rfl) (by kernel_rfl) (fun _ _ _ h => h) (Or.inr ⟨by rfl, rfl⟩) trivial ?_
          try simp only [List.getElem_toArray, List.getElem_cons_zero, List.getElem_cons_succ, Act.put, List.setIfInBounds_toArray, List.set_cons_zero, List.set_cons_succ]
          refine wpAnyH_take (i := 15) (v := undef) rfl (by kernel_rfl) (by kernel_rfl) (by kernel_rfl) (fun _ _ _ h => h) (Or.inr ⟨by rfl, rfl⟩) trivial ?_
          try simp only [List.getElem_toArray, List.getElem_cons_zero, List.getElem_cons_succ, Act.put, List.setIfInBounds_toArray, List.set_cons_zero, List.set_cons_succ]
          refine wpAnyH_take (i := 16) (v := ?_) rfl (by kernel_rfl) (by kernel_rfl) (by kernel_rfl) (fun _ _ _ h => h) (Or.inl ⟨by rfl, ?_⟩) trivial ?_
          rotate_left
          · intro wS hSw
            go_simp
            try with_reducible rfl
          try simp only [List.getElem_toArray, List.getElem_cons_zero, List.getElem_cons_succ, Act.put, List.setIfInBounds_toArray, List.set_cons_zero, List.set_cons_succ]
          refine wpAnyH_done (by kernel_rfl) ?_ _
          go_wp2
          exact ⟨.inr ⟨rfl, HF2, Lib.hid (below_drewN HB2.out 1)⟩, by decide⟩
    · go_wp2
      first | go_end0 | refine bodyPost_ret (results_none rfl _ _ _) rfl ?_
      exact ⟨rfl, HF.out, HB.out⟩
theorem bitsLen64 (w : World) : Calls Try.prog 53 #[.int .u64 2] w fun e w' => e = .returned (.int .i64 2) ∧ w' = w := by
  go_enter Try.func53, Try.ntmps53
  go_wp2
  go_ret
  exact ⟨by kernel_rfl, rfl⟩
theorem bitsLen (w : World) : Calls Try.prog 42 #[.int .u64 2] w fun e w' => e = .returned (.int .i64 2) ∧ w' = w := by
  go_enter Try.func42, Try.ntmps42
  go_wp2_with (go_at_call 53; refine (bitsLen64 _).mono ?_; rintro e w' ⟨rfl, rfl⟩)
  go_ret
  exact ⟨rfl, rfl⟩
set_option maxHeartbeats 4000000 in
theorem ordPdq (g c B : Nat) (w : World) (h : Four w g ⟨#[98]⟩ ⟨#[100]⟩ ⟨#[97]⟩ ⟨#[99]⟩) (hg : B ≤ g) : Calls Try.prog 41 #[.slice (some ⟨g, 0, none⟩) 2 c, .int .i64 0, .int .i64 2, .int .i64 2, cmpV] w fun e w' =>
    e = .returned (.tuple #[]) ∧ Four w' g ⟨#[97]⟩ ⟨#[99]⟩ ⟨#[98]⟩ ⟨#[100]⟩ ∧ Below B w w' := by
  have HI := Lib.hid (ordInsert g c B w h hg)
  clear h
  unfold cmpV at *
  go_enter Try.func41, Try.ntmps41
  go_wp2
  refine wp_loop_once ?_
  go_wp2_with (go_at_call 44; refine HI.out.mono ?_; rintro e w1 ⟨rfl, HF1, HB1⟩)
  first | go_end0 | refine bodyPost_ret (results_none rfl _ _ _) rfl ?_
  exact ⟨rfl, HF1, HB1⟩
set_option maxHeartbeats 4000000 in
theorem ordSort (g c B : Nat) (w : World) (h : Four w g ⟨#[98]⟩ ⟨#[100]⟩ ⟨#[97]⟩ ⟨#[99]⟩) (hg : B ≤ g) : Calls Try.prog 32 #[.slice (some ⟨g, 0, none⟩) 2 c, cmpV] w fun e w' =>
    e = .returned (.tuple #[]) ∧ Four w' g ⟨#[97]⟩ ⟨#[99]⟩ ⟨#[98]⟩ ⟨#[100]⟩ ∧ Below B w w' := by
  have HI := Lib.hid (ordPdq g c B w h hg)
  clear h
  go_enter Try.func32, Try.ntmps32
  go_wp2_with (first | (go_at_call 42; refine (bitsLen _).mono ?_; rintro e w' ⟨rfl, rfl⟩) | (go_at_call 41; refine HI.out.mono ?_; rintro e w1 ⟨rfl, HF1, HB1⟩))
  first | go_end0 | refine bodyPost_ret (results_none rfl _ _ _) rfl ?_
  exact ⟨rfl, HF1, HB1⟩
end Cib
