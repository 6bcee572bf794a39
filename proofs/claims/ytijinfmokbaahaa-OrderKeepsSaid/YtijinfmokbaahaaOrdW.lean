/- Order: the small functions. -/
import Derived.Test.YtijinfmokbaahaaApp
import Derived.Test.YtijinfmokbaahaaReg
import Derived.Test.YtijinfmokbaahaaOrdP
import Derived.Laws.Cover1
import Derived.Laws.StructEq
import Derived.Lib.Hide
set_option linter.unusedVariables false
set_option linter.unusedSimpArgs false
set_option maxRecDepth 20000
namespace Cib
open Go Go.RowKit Go.Proofs
theorem below_grow {B : Nat} {a w : World} (h : Below B a w) (hB : B ≤ w.heap.size) (os : Array Obj) : Below B a (Sort.grow w os) :=
  h.trans ⟨rfl, rfl, rfl, by simp [Sort.grow], fun k hk => by
    unfold Sort.grow
    exact Array.getElem?_append_left (by omega)⟩
def sp (s : ByteArray × ByteArray) : Value := .agg #[.string s.1, .string s.2]
set_option maxHeartbeats 1000000 in
theorem ordAhead (k t : ByteArray) (W : World) : Calls Try.prog 28 #[.string k, .string t] W fun e w' => e = .returned (.bool (Ord.ahd k t)) ∧ w' = W := by
  unfold Ord.ahd Ord.no Ord.lt
  go_enter Try.func28, Try.ntmps28
  go_wp2
  all_goals (go_ret; simp_all)
set_option maxHeartbeats 1000000 in
theorem ordIn (s : ByteArray × ByteArray) (k : ByteArray) (W : World) : Calls Try.prog 11 #[sp s, .string k] W fun e w' => e = .returned (.bool (Ord.inn s.1 s.2 k)) ∧ Below W.heap.size W w' := by
  obtain ⟨f, t⟩ := s
  have hc := fun W => ordAhead k t W
  unfold Ord.inn Ord.lt sp
  generalize Ord.ahd k t = r at hc ⊢
  dsimp only
  go_enter Try.func11, Try.ntmps11
  go_wp2_with (go_at_call 28; refine (hc _).mono ?_; rintro e w' ⟨rfl, rfl⟩)
  all_goals (go_ret; refine ⟨by simp_all, (Below.refl _ _).alloc (Nat.le_refl _) _⟩)
set_option maxHeartbeats 1000000 in
theorem ordEmpty (s : ByteArray × ByteArray) (W : World) : Calls Try.prog 13 #[sp s] W fun e w' => e = .returned (.bool (Ord.emp s.1 s.2)) ∧ ∃ q os, w' = Sort.grow (W.drewN q) os := by
  obtain ⟨f, t⟩ := s
  have hc := fun W => ordAhead f t W
  unfold Ord.emp sp
  generalize Ord.ahd f t = r at hc ⊢
  dsimp only
  go_enter Try.func13, Try.ntmps13
  go_wp2_with (go_at_call 28; refine (hc _).mono ?_; rintro e w' ⟨rfl, rfl⟩)
  go_ret
  exact ⟨rfl, 0, _, by rw [Sort.alloc_eq_grow]; rfl⟩
theorem ordEmptyB (s : ByteArray × ByteArray) (W : World) : Calls Try.prog 13 #[sp s] W fun e w' => e = .returned (.bool (Ord.emp s.1 s.2)) ∧ Below W.heap.size W w' :=
  (ordEmpty s W).mono fun e w' ⟨he, q, os, hw⟩ => ⟨he, by subst hw; exact below_grow (below_drewN (Below.refl _ _) q) (Nat.le_refl _) os⟩
set_option maxHeartbeats 1000000 in
theorem refIn20 (s : ByteArray × ByteArray) (k : ByteArray) (W : World) : Calls Try.prog 17 #[sp s, .string k] W fun e w' => e = .returned (.bool (Ord.inn s.1 s.2 k)) ∧ Below W.heap.size W w' := by
  obtain ⟨f, t⟩ := s
  unfold Ord.inn Ord.ahd Ord.no Ord.lt sp
  dsimp only
  go_enter Try.func17, Try.ntmps17
  go_wp2
  all_goals (go_ret; refine ⟨by simp_all, (Below.refl _ _).alloc (Nat.le_refl _) _⟩)
set_option maxHeartbeats 1000000 in
theorem refEmpty20 (s : ByteArray × ByteArray) (W : World) : Calls Try.prog 18 #[sp s] W fun e w' => e = .returned (.bool (!Ord.no s.2 && (Ord.lt s.2 s.1 || Ord.eq s.2 s.1))) ∧ Below W.heap.size W w' := by
  obtain ⟨f, t⟩ := s
  unfold Ord.eq Ord.no Ord.lt sp
  dsimp only
  go_enter Try.func18, Try.ntmps18
  go_wp2
  all_goals (go_ret; refine ⟨by simp_all, (Below.refl _ _).alloc (Nat.le_refl _) _⟩)
set_option maxHeartbeats 1000000 in
theorem ordRight (k : ByteArray) (W : World) : Calls Try.prog 16 #[.string k] W fun e w' => e = .returned (.bool (decide (0 < k.size) && decide (k.size ≤ 16))) ∧ w' = W := by
  go_enter Try.func16, Try.ntmps16
  go_wp2
  all_goals (go_ret; simp_all [show ((k.size : Int) ≤ 16) = (k.size ≤ 16) from propext (by omega)])
set_option maxHeartbeats 1000000 in
theorem ordNext (k : ByteArray) (hk : k.size ≤ 1000000) (W : World) : Calls Try.prog 15 #[.string k] W fun e w' => e = .returned (.string (k ++ ⟨#[0]⟩)) ∧ w' = W := by
  go_enter Try.func15, Try.ntmps15
  go_wp2
  go_ret
  exact ⟨rfl, rfl⟩
theorem run_minS (P : Program) (t t' t'' : TypeId) (a b : ByteArray) (W : World) : Sem.run P (Builtin.min_ #[t, t'] t'' #[.string a, .string b]) W = .ok (.string (Ord.bot a b)) W := by
  simp [Builtin.min_, Builtin.min2, Op.stringOp, asBool, Ord.bot, Ord.lt, Ord.eq]
theorem run_maxS (P : Program) (t t' t'' : TypeId) (a b : ByteArray) (W : World) : Sem.run P (Builtin.max_ #[t, t'] t'' #[.string a, .string b]) W = .ok (.string (Ord.top a b)) W := by
  simp [Builtin.max_, Builtin.max2, Op.stringOp, asBool, Ord.top, Ord.lt, Ord.eq]
set_option maxHeartbeats 1000000 in
theorem ordLow (a b : ByteArray) (W : World) : Calls Try.prog 29 #[.string a, .string b] W fun e w' => e = .returned (.string (Ord.low a b)) ∧ w' = W := by
  have hm := run_minS Try.prog 9 9 9 a b W
  unfold Ord.low Ord.no
  generalize Ord.bot a b = r at hm ⊢
  go_enter Try.func29, Try.ntmps29
  go_wp2
  all_goals (go_ret; simp_all)
set_option maxHeartbeats 1000000 in
theorem ordHi (a b : ByteArray) (W : World) : Calls Try.prog 34 #[.string a, .string b] W fun e w' => e = .returned (.string (Ord.hi a b)) ∧ w' = W := by
  have hm := run_maxS Try.prog 9 9 9 a b W
  unfold Ord.hi Ord.no Ord.z
  generalize Ord.top a b = r at hm ⊢
  go_enter Try.func34, Try.ntmps34
  go_wp2
  all_goals (go_ret; simp_all)
end Cib
