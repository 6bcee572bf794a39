/- sets: each set of so many numbers, one behind the other. -/
import Derived.Test.YthlpcghoijgeiaaLocU
import Derived.Test.YthlpcghoijgeiaaLocS
import Derived.WalkMore
set_option linter.unusedVariables false
set_option linter.unusedSimpArgs false
set_option maxRecDepth 40000
namespace Cib
open Go Go.RowKit Go.Proofs
/-- All blocks but one stay as they are. -/
structure Bf (gf : Nat) (w w' : World) : Prop where
  os : w'.os = w.os
  tape : w'.tape = w.tape
  output : w'.output = w.output
  size : w.heap.size ≤ w'.heap.size
  oth : ∀ k, k < w.heap.size → k ≠ gf → w'.heap[k]? = w.heap[k]?
theorem Bf.of {gf : Nat} {w w' : World} (h : Below w.heap.size w w') : Bf gf w w' := ⟨h.os, h.tape, h.output, h.size, fun k hk _ => h.block k hk⟩
theorem Bf.own {gf b n : Nat} {e : TypeId} {v : Value} {xs : List Value} {w w' : World} (h : w.ownsRow b e 1 v n xs) (hb : Bf gf w w') (hg : gf < b) : w'.ownsRow b e 1 v n xs := by
  refine ⟨h.1, ?_⟩
  rcases h.2 with h0 | ⟨g, cap, cur, rfl, h1, h2, h3⟩
  · exact .inl h0
  · have hl : g < w.heap.size := Blk.lt (t := e) (cs := cur) h2
    exact .inr ⟨g, cap, cur, rfl, h1, (hb.oth g hl (by omega)).trans h2, h3⟩
/-- Numbers in place. -/
def Row (wr : World) (b gS m : Nat) (s : List Nat) : Prop := wr.ownsRow b 3 1 (.slice (some ⟨gS, 0, none⟩) m m) m (s.map iv)
theorem Row.len {wr : World} {b gS m : Nat} {s : List Nat} (h : Row wr b gS m s) : s.length = m := by
  have := h.1
  simpa using this
theorem Row.at_ {wr : World} {b gS m : Nat} {s : List Nat} (h : Row wr b gS m s) {j : Nat} (hj : j < s.length) : wr.cell? ⟨gS, j, none⟩ = some (.int .i64 (s[j] : Int)) ∧ wr.frozen? ⟨gS, j, none⟩ = false := by
  refine ⟨?_, h.frozenAt j⟩
  rw [h.cellAt j (by have := h.len; omega), List.getElem?_map, List.getElem?_eq_getElem hj]
  rfl
theorem Row.put {wr : World} {b gS m : Nat} {s : List Nat} (h : Row wr b gS m s) (j x : Nat) : Row (wr.setCell ⟨gS, j, none⟩ (.int .i64 (x : Int))) b gS m (s.set j x) := by
  have h1 := (World.ownsRow.stored h j (iv x)).1
  rw [← List.map_set] at h1
  exact h1
theorem Row.via {wr w' : World} {b gS m : Nat} {s : List Nat} (h : Row wr b gS m s) (hb : Below wr.heap.size wr w') : Row w' b gS m s := own_via h hb
theorem Row.home {wr : World} {b gS m : Nat} {s : List Nat} (h : Row wr b gS m s) (hm : 0 < m) : b ≤ gS := by
  rcases h.2 with ⟨h0, _⟩ | ⟨g, cap, cur, hv, h1, _⟩
  · injection h0 with _ h0
    omega
  · injection hv with hv
    injection hv with hv
    injection hv with hv
    omega
/-- What is read of them. -/
def rdS (wr : World) (gS m : Nat) : List Nat := (List.range m).map fun j => match wr.cell? ⟨gS, j, none⟩ with | some (.int _ x) => x.toNat | _ => 0
theorem Row.rd {wr : World} {b gS m : Nat} {s : List Nat} (h : Row wr b gS m s) : rdS wr gS m = s := by
  apply List.ext_getElem
  · simp [rdS, h.len]
  · intro j h1 h2
    simp only [rdS, List.getElem_map, List.getElem_range, (h.at_ h2).1, Int.toNat_natCast]
/-- follow under way. -/
def curS (p : List Nat) (a : Nat) (r : List Nat) (q : Nat) : List Nat := p ++ (Loc.upS a (q + 1) ++ r.drop q)
theorem curS_length {p : List Nat} {a : Nat} {r : List Nat} {q : Nat} (hq : q ≤ r.length) : (curS p a r q).length = p.length + 1 + r.length := by
  simp [curS, Loc.upS_length]
  omega
theorem curS_get {p : List Nat} {a : Nat} {r : List Nat} {q : Nat} (hq : q ≤ r.length) (h : p.length + q < (curS p a r q).length) : (curS p a r q)[p.length + q] = a + q := by
  have e : (p ++ (Loc.upS a (q + 1) ++ r.drop q))[p.length + q]? = some (a + q) := by
    rw [List.getElem?_append_right (by omega), Nat.add_sub_cancel_left, List.getElem?_append_left (by rw [Loc.upS_length]; omega), List.getElem?_eq_getElem (by rw [Loc.upS_length]; omega), Loc.upS_get]
  have e2 := List.getElem?_eq_getElem h
  unfold curS at e2
  rw [e] at e2
  injection e2 with e2
  exact e2.symm
theorem curS_set {p : List Nat} {a : Nat} {r : List Nat} {q : Nat} (hq : q < r.length) : (curS p a r q).set (p.length + q + 1) (a + q + 1) = curS p a r (q + 1) := by
  unfold curS
  have e1 : Loc.upS a (q + 1 + 1) = Loc.upS a (q + 1) ++ [a + q + 1] := by
    unfold Loc.upS
    rw [List.range'_concat]
    simp
    omega
  rw [List.set_append_right _ _ (by omega), show p.length + q + 1 - p.length = q + 1 from by omega, List.set_append_right _ _ (by rw [Loc.upS_length]; exact Nat.le_refl _), Loc.upS_length, Nat.sub_self, e1, List.append_assoc, List.drop_eq_getElem_cons hq]
  rfl
theorem curS_end (p : List Nat) (a : Nat) (r : List Nat) : curS p a r r.length = p ++ Loc.upS a (r.length + 1) := by simp [curS]
set_option maxHeartbeats 1000000 in
theorem locFollow (b gS m : Nat) (p : List Nat) (a : Nat) (r : List Nat) (w : World) (h : Row w b gS m (p ++ a :: r)) (hm : m ≤ 1000000) (ha : a + m ≤ 100000000) :
    Calls Try.prog 56 #[.slice (some ⟨gS, 0, none⟩) m m, .int .i64 (p.length : Int)] w fun e w' => e = .returned (.tuple #[]) ∧ Row w' b gS m (p ++ Loc.upS (a + 1 - 1) (r.length + 1)) ∧ Below b w w' := by
  rw [Nat.add_sub_cancel]
  have hml := h.len
  simp only [List.length_append, List.length_cons] at hml
  have hbg := h.home (by omega)
  have H0 : Hid (Row w b gS m (curS p a r 0)) := Lib.hid (by
    unfold curS
    rw [Nat.zero_add, Loc.upS_succ]
    simpa [Loc.upS] using h)
  obtain ⟨P, hP⟩ : ∃ P, p.length = P := ⟨_, rfl⟩
  have HP := Lib.hid hP
  obtain ⟨rl, hrl⟩ : ∃ rl, r.length = rl := ⟨_, rfl⟩
  have HRL := Lib.hid hrl
  rw [hP, hrl] at hml
  rw [hP, hrl]
  clear hP hrl h
  have hw0 : IntKind.i64.wrap ((P : Int) + 1) = ((P + 0 + 1 : Nat) : Int) := by rw [IntKind.wrap_i64] <;> omega
  go_enter Try.func56, Try.ntmps56
  go_wp2
  go_loopw [4] (fun k wr => ∃ q x : Nat, k = .int .i64 (x : Int) ∧ x = P + q + 1 ∧ q ≤ rl ∧ Hid (Row wr b gS m (curS p a r q)) ∧ Hid (Below b w wr)) (fun k _ => m - (intOf k).toNat)
  case atStart => exact ⟨0, P + 0 + 1, by first | rfl | go_num | (congr 1), rfl, Nat.zero_le _, H0, Lib.hid (Below.refl _ _)⟩
  case round =>
    clear H0 hw0
    obtain ⟨q, x, rfl, hx, hq, HR, HB⟩ := hrel
    by_cases hlt : q < rl
    · have hq' : q < r.length := by rw [HRL.out]; exact hlt
      have hcl := curS_length (p := p) (a := a) (r := r) (q := q) (by omega)
      have hj : p.length + q < (curS p a r q).length := by omega
      obtain ⟨hc1, hf1⟩ := HR.out.at_ hj
      rw [curS_get (by omega)] at hc1
      have hj2 : p.length + q + 1 < (curS p a r q).length := by omega
      obtain ⟨hc2, hf2⟩ := HR.out.at_ hj2
      have HPU := Lib.hid (HR.out.put (p.length + q + 1) (a + q + 1))
      rw [curS_set hq', HP.out] at HPU
      generalize (curS p a r q)[p.length + q + 1] = v2 at hc2
      rw [HP.out] at hc1 hc2 hf2
      have HB2 := Lib.hid (HB.out.setCell (p := ⟨gS, P + q + 1, none⟩) hbg (.int .i64 ((a + q + 1 : Nat) : Int)))
      obtain ⟨z, hz⟩ : ∃ z, a + q = z := ⟨_, rfl⟩
      obtain ⟨x0, hx0⟩ : ∃ x0, P + q = x0 := ⟨_, rfl⟩
      have hxx : x = x0 + 1 := by omega
      have hxm : x0 + 1 < m := by omega
      have hx0m : x0 < m := by omega
      have hz9 : z ≤ 100000000 := by omega
      rw [hz, hx0, Int.natCast_succ] at HPU HB2
      rw [hz, hx0] at hc1
      rw [hx0] at hc2 hf2
      have HXE := Lib.hid hx
      have HX0 := Lib.hid hx0
      subst hxx
      clear hx hz hx0 hq' hcl hj hj2 HR HB hf1
      go_wp2
      go_roundw
      case rel => exact ⟨q + 1, x0 + 1 + 1, by go_num, by have := HX0.out; omega, by omega, HPU, HB2⟩
      case measure => simp [intOf]; omega
    · obtain rfl : q = rl := by omega
      have hrow := HR.out
      rw [← HRL.out, curS_end, HRL.out] at hrow
      have HR2 := Lib.hid hrow
      have hxm : ¬ x < m := by omega
      clear hrow HR hlt
      go_wp2
      first | go_end0 | refine bodyPost_ret (results_none rfl _ _ _) rfl ?_
      exact ⟨rfl, HR2.out, HB.out⟩
end Cib
