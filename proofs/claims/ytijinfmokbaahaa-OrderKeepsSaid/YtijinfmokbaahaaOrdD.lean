/- Order: Union at the page's example. -/
import Derived.Test.YtijinfmokbaahaaOrdC
import Derived.Lib.SliceRun
set_option linter.unusedVariables false
set_option linter.unusedSimpArgs false
set_option maxRecDepth 20000
namespace Cib
open Go Go.RowKit Go.Proofs
theorem spanInfo3 : (Try.prog.info? 26).map (fun i => (i.zero, i.size, i.bytes)) = some (some (.agg #[.string ⟨#[]⟩, .string ⟨#[]⟩]), 2, 32) := by kernel_rfl
theorem ordEmptyC (s : ByteArray × ByteArray) (r : Bool) (h : Ord.emp s.1 s.2 = r) (W : World) : Calls Try.prog 13 #[sp s] W fun e w' => e = .returned (.bool r) ∧ Below W.heap.size W w' := by
  subst h
  exact ordEmptyB s W
/-- The first three spans of a row. -/
def Six (w : World) (g : Nat) (l : List ByteArray) : Prop := l.length = 6 ∧ ∃ cs, Blk w g 26 cs ∧ ∀ i (h : i < l.length), cs[i]? = some (.string l[i])
section
variable {w w' : World} {g : Nat} {l : List ByteArray}
theorem Six.c (h : Six w g l) (i : Nat) (hi : i < l.length) : w.cell? ⟨g, i, none⟩ = some (.string l[i]) := by obtain ⟨_, cs, h, h0⟩ := h; exact (h.cell i).trans (h0 i hi)
theorem Six.fr (h : Six w g l) (i : Nat) : w.frozen? ⟨g, i, none⟩ = false := by obtain ⟨_, cs, h, _⟩ := h; exact h.frozen i
theorem Six.lt (h : Six w g l) : g < w.heap.size := by obtain ⟨_, cs, h, _⟩ := h; exact h.lt
theorem Six.below {B : Nat} (h : Six w g l) (hb : Below B w w') (hg : g < B) : Six w' g l := by obtain ⟨h1, cs, h, h'⟩ := h; exact ⟨h1, cs, h.below hb hg, h'⟩
theorem Six.own {B : Nat} {A : Option Addr} {n c : Nat} (hl : l.length = 6) (hn : n = 3) (h : w.ownsRow B 26 2 (.slice A n c) n (l.map Value.string)) : ∃ g, A = some ⟨g, 0, none⟩ ∧ Six w g l ∧ B ≤ g := by
  rcases h.2 with ⟨h0, h1⟩ | ⟨g, cap, cur, hv, h1, h2, h3⟩
  · omega
  · subst hn
    injection hv with e1 _ e3
    subst e1
    refine ⟨g, rfl, ⟨hl, cur, h2, fun i hi => ?_⟩, h1⟩
    obtain ⟨_, _, _, h6⟩ := h3
    have h7 : (List.take (3 * 2) cur.toList)[i]? = (l.map Value.string)[i]? := by rw [h6]
    rw [List.getElem?_take_of_lt (by omega), List.getElem?_map, List.getElem?_eq_getElem hi] at h7
    simpa using h7
end
set_option maxHeartbeats 1000000 in
theorem ordClone (A : Option Addr) (n c B : Nat) (l : List ByteArray) (hl : l.length = n * 2) (h0 : 0 < n) (hn : n ≤ 1000) (w : World) (h : Rd w B A (l.map Value.string)) (hB : B ≤ w.heap.size) : Calls Try.prog 31 #[.slice A n c] w fun e w' =>
    ∃ A' c', e = .returned (.slice A' n c') ∧ w'.ownsRow w.heap.size 26 2 (.slice A' n c') n (l.map Value.string) ∧ Below w.heap.size w w' := by
  obtain ⟨ad, rfl, _⟩ := h (by intro e; simp at e; subst e; simp at hl; omega)
  have hE : Sem.run Try.prog (binOp .eql 32 (.slice (some ad) n c) (.slice none 0 0)) w = .ok (.bool false) w := Lib.run_eql_slice_nil w 32 26 (some ad) n c 0 0 Try.underlying32
  go_enter Try.func31, Try.ntmps31
  obtain ⟨i0, hi, hz0, hz1, hz2⟩ := info_parts spanInfo3
  have HI := Lib.hid hi
  have HR := Lib.hid h
  clear h hi
  go_wp2_with (at_builtin; refine wpList_appN rfl (.tmp 5) (.tmp 6) _ rfl w.heap.size 2 26 i0 _ 32 Try.underlying32 HI.out hz0 hz1 hz2 rfl (by decide) (some ⟨w.heap.size, 0, none⟩) 0 0 [] rfl ⟨rfl, .inr ⟨_, 0, #[], rfl, Nat.le_refl _, heap_alloc_new w _, Nat.le_refl _, by decide, rfl, rfl⟩⟩ B (some ad) n c (l.map Value.string) rfl (by rw [List.length_map]; exact hl) (HR.out.alloc hB _) (fun u hu => by obtain ⟨x, _, rfl⟩ := List.mem_map.1 hu; rfl) (by unfold maxLen; omega) (by omega) (by simp) ?_; intro A1 c1' w1 ho1 hg1 hb1)
  go_ret
  rw [Nat.zero_add, List.nil_append] at ho1
  exact ⟨A1, c1', rfl, ho1, ((Below.refl _ _).alloc (Nat.le_refl _) _).trans hb1⟩
def ex6 : List ByteArray := [⟨#[98]⟩, ⟨#[100]⟩, ⟨#[97]⟩, ⟨#[99]⟩, ⟨#[101]⟩, ⟨#[101]⟩]
theorem six_facts {w : World} {g : Nat} (h : Six w g ex6) : w.cell? ⟨g, 0, none⟩ = some (.string ⟨#[98]⟩) ∧ w.cell? ⟨g, 1, none⟩ = some (.string ⟨#[100]⟩) ∧ w.cell? ⟨g, 2, none⟩ = some (.string ⟨#[97]⟩) ∧ w.cell? ⟨g, 3, none⟩ = some (.string ⟨#[99]⟩) ∧ w.cell? ⟨g, 4, none⟩ = some (.string ⟨#[101]⟩) ∧ w.cell? ⟨g, 5, none⟩ = some (.string ⟨#[101]⟩) :=
  ⟨h.c 0 (by decide), h.c 1 (by decide), h.c 2 (by decide), h.c 3 (by decide), h.c 4 (by decide), h.c 5 (by decide)⟩
theorem emp_bd : Ord.emp ⟨#[98]⟩ ⟨#[100]⟩ = false := by simp [Ord.emp, Ord.ahd, Ord.no, Ord.lt, Go.ByteArray.toList_eq, Op.bytesLess]
theorem emp_ac : Ord.emp ⟨#[97]⟩ ⟨#[99]⟩ = false := by simp [Ord.emp, Ord.ahd, Ord.no, Ord.lt, Go.ByteArray.toList_eq, Op.bytesLess]
theorem emp_ee : Ord.emp ⟨#[101]⟩ ⟨#[101]⟩ = true := by simp [Ord.emp, Ord.ahd, Ord.no, Ord.lt, Go.ByteArray.toList_eq, Op.bytesLess]
set_option maxHeartbeats 4000000 in
theorem ordIndex (g c B : Nat) (w : World) (h : Six w g ex6) (hg : B ≤ g) : Calls Try.prog 40 #[.slice (some ⟨g, 0, none⟩) 3 c, .func (.func 13) #[] #[]] w fun e w' =>
    e = .returned (.int .i64 2) ∧ Six w' g ex6 ∧ Below B w w' := by
  go_enter Try.func40, Try.ntmps40
  go_wp2
  go_loopw [8] (fun x8 wx => (x8 = .int .i64 0 ∨ x8 = .int .i64 1 ∨ x8 = .int .i64 2) ∧ Hid (Six wx g ex6) ∧ Hid (Below B w wx)) (fun x8 _ => 3 - (intOf x8).toNat)
  · exact ⟨.inl rfl, Lib.hid h, Lib.hid (Below.refl _ _)⟩
  · obtain ⟨hx, HF, HB⟩ := hrel
    obtain ⟨c0, c1, c2, c3, c4, c5⟩ := six_facts HF.out
    have hgw := HF.out.lt
    rcases hx with rfl | rfl | rfl
    · go_wp2_with (first | (refine (ordEmptyC (⟨#[98]⟩, ⟨#[100]⟩) _ emp_bd _).mono ?_; rintro e w1 ⟨rfl, hb1⟩) | (go_at_call 13; refine (ordEmptyC (⟨#[98]⟩, ⟨#[100]⟩) _ emp_bd _).mono ?_; rintro e w1 ⟨rfl, hb1⟩))
      exact ⟨⟨.inr (.inl rfl), Lib.hid (HF.out.below hb1 hgw), Lib.hid (HB.out.trans (hb1.mono (by omega)))⟩, by decide⟩
    · go_wp2_with (first | (refine (ordEmptyC (⟨#[97]⟩, ⟨#[99]⟩) _ emp_ac _).mono ?_; rintro e w1 ⟨rfl, hb1⟩) | (go_at_call 13; refine (ordEmptyC (⟨#[97]⟩, ⟨#[99]⟩) _ emp_ac _).mono ?_; rintro e w1 ⟨rfl, hb1⟩))
      exact ⟨⟨.inr (.inr rfl), Lib.hid (HF.out.below hb1 hgw), Lib.hid (HB.out.trans (hb1.mono (by omega)))⟩, by decide⟩
    · go_wp2_with (first | (refine (ordEmptyC (⟨#[101]⟩, ⟨#[101]⟩) _ emp_ee _).mono ?_; rintro e w1 ⟨rfl, hb1⟩) | (go_at_call 13; refine (ordEmptyC (⟨#[101]⟩, ⟨#[101]⟩) _ emp_ee _).mono ?_; rintro e w1 ⟨rfl, hb1⟩))
      go_ret
      exact ⟨rfl, HF.out.below hb1 hgw, HB.out.trans (hb1.mono (by omega))⟩
theorem run_clear1 (w : World) (g c : Nat) (ty : TypeId) (h : Six w g ex6) : Sem.run Try.prog (Builtin.clear_ #[32] ty #[.slice (some ⟨g, 4, none⟩) 1 c]) w = .ok (.tuple #[]) ((w.setCell ⟨g, 4, none⟩ (.string ⟨#[]⟩)).setCell ⟨g, 5, none⟩ (.string ⟨#[]⟩)) := by
  obtain ⟨c0, c1, c2, c3, c4, c5⟩ := six_facts h
  have f4 := h.fr 4
  have f5 := h.fr 5
  have hz : Try.t26.zero = some (.agg #[.string ⟨#[]⟩, .string ⟨#[]⟩]) := by kernel_rfl
  have hl : (Builtin.zeroCells (Value.agg #[.string ⟨#[]⟩, .string ⟨#[]⟩]).cells 1).toList = [.string ⟨#[]⟩, .string ⟨#[]⟩] := by kernel_rfl
  have hst := run_storeCells_cells (P := Try.prog) g 4 [.string ⟨#[]⟩, .string ⟨#[]⟩] 0 w (fun j hj => by
    have : j = 0 ∨ j = 1 := by simp at hj; omega
    rcases this with rfl | rfl
    · simp [c4]
    · simp [c5]) (fun j hj => h.fr _) (by intro v hv; simp at hv; subst hv; rfl)
  simp only [Nat.add_zero] at hst
  simp [Builtin.clear_, run_underlying Try.underlying32, zeroValue, hz, hl, hst]
  rfl
set_option maxHeartbeats 4000000 in
theorem ordDelete (g c B : Nat) (w : World) (h : Six w g ex6) (hg : B ≤ g) (hc : 3 ≤ c) : Calls Try.prog 30 #[.slice (some ⟨g, 0, none⟩) 3 c, .func (.func 13) #[] #[]] w fun e w' =>
    (∃ c', e = .returned (.slice (some ⟨g, 0, none⟩) 2 c')) ∧ Four w' g ⟨#[98]⟩ ⟨#[100]⟩ ⟨#[97]⟩ ⟨#[99]⟩ ∧ Below B w w' := by
  have HI := Lib.hid (ordIndex g c B w h hg)
  clear h
  go_enter Try.func30, Try.ntmps30
  go_wp2_with (go_at_call 40; refine HI.out.mono ?_; rintro e w1 ⟨rfl, HF1, HB1⟩)
  refine wp_loop_once ?_
  have HCL := run_clear1 w1 g (c - 2) 0 HF1
  go_wp2
  go_ret
  obtain ⟨_, cs, hb, hcs⟩ := HF1
  refine ⟨⟨_, rfl⟩, ⟨_, (hb.set 4 _).set 5 _, ?_, ?_, ?_, ?_⟩, (HB1.setCell hg _).setCell hg _⟩
  · have := hcs 0 (by decide)
    simpa [Array.getElem?_setIfInBounds, ex6] using this
  · have := hcs 1 (by decide)
    simpa [Array.getElem?_setIfInBounds, ex6] using this
  · have := hcs 2 (by decide)
    simpa [Array.getElem?_setIfInBounds, ex6] using this
  · have := hcs 3 (by decide)
    simpa [Array.getElem?_setIfInBounds, ex6] using this
end Cib
