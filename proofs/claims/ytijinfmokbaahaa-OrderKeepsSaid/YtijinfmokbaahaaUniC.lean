/- Order: Clone, IndexFunc, DeleteFunc at any list of spans. -/
import Derived.Test.YtijinfmokbaahaaOrdS
import Derived.Test.YtijinfmokbaahaaOrdG
import Derived.Test.YtijinfmokbaahaaUniP
import Derived.Laws.CopyRow
set_option linter.unusedVariables false
set_option linter.unusedSimpArgs false
set_option maxRecDepth 20000
namespace Cib
open Go Go.RowKit Go.Proofs
/-- A list of spans as cells. -/
def cellsL (L : List Sn) : List Value := (L.map fun s => [Value.string s.1, .string s.2]).flatten
section
variable {L M : List Sn} {s : Sn} {i : Nat}
theorem cellsL_two : ∀ r ∈ L.map (fun s : Sn => [Value.string s.1, .string s.2]), r.length = 2 := by
  intro r hr
  obtain ⟨x, _, rfl⟩ := List.mem_map.1 hr
  rfl
theorem cellsL_len : (cellsL L).length = L.length * 2 := by
  unfold cellsL
  rw [flat_length 2 _ cellsL_two, List.length_map]
theorem cellsL_app : cellsL (L ++ M) = cellsL L ++ cellsL M := by simp [cellsL]
theorem cellsL_one : cellsL [s] = [.string s.1, .string s.2] := rfl
theorem cellsL_cell : ∀ u ∈ cellsL L, u.oneCell' = true := by
  intro u hu
  obtain ⟨r, hr, hu⟩ := List.mem_flatten.1 hu
  obtain ⟨x, _, rfl⟩ := List.mem_map.1 hr
  simp at hu
  rcases hu with rfl | rfl <;> rfl
theorem cellsL_at (hi : i < L.length) : (cellsL L)[i * 2]? = some (.string L[i].1) ∧ (cellsL L)[i * 2 + 1]? = some (.string L[i].2) := by
  have h0 := flat_get 2 _ (cellsL_two (L := L)) i 0 (by simpa using hi) (by decide)
  have h1 := flat_get 2 _ (cellsL_two (L := L)) i 1 (by simpa using hi) (by decide)
  simp only [List.getElem_map] at h0 h1
  exact ⟨h0, h1⟩
end
/-- A row of spans of the call's own. -/
def Own (w : World) (B : Nat) (A : Option Addr) (n c : Nat) (L : List Sn) : Prop := w.ownsRow B 26 2 (.slice A n c) n (cellsL L)
section
variable {w w' : World} {B n c g : Nat} {A : Option Addr} {L : List Sn} {d : Array Sn}
theorem Own.len (h : Own w B A n c L) : L.length = n := by
  have h1 := h.1
  rw [cellsL_len] at h1
  omega
theorem Own.rd (h : Own w B A n c L) : Rd w w.heap.size A (cellsL L) := Rd.of_ownS h
theorem Own.via (h : Own w B A n c L) (hb : Below w.heap.size w w') : Own w' B A n c L := own_belowS h hb
theorem Own.lower {B' : Nat} (h : Own w B A n c L) (hb : B' ≤ B) : Own w B' A n c L := own_lowerS h hb
theorem Own.nil : Own w B none 0 0 [] := World.ownsRow_nil _ _ _ _
theorem lies_list {cs : Array Value} (h : Blk w g 26 cs) (hc : ∀ i (hi : i < L.length), cs[i * 2]? = some (.string L[i].1) ∧ cs[i * 2 + 1]? = some (.string L[i].2)) : Lies w g L.toArray :=
  ⟨cs, h, fun i hi => by
    have hi' : i < L.length := by simpa using hi
    have e : L.toArray[i]! = L[i] := by simp [hi']
    rw [e]
    exact hc i hi'⟩
theorem Own.cases (h : Own w B A n c L) : (A = none ∧ n = 0 ∧ c = 0) ∨ ∃ g, A = some ⟨g, 0, none⟩ ∧ B ≤ g ∧ n ≤ c ∧ c ≤ maxLen ∧ Lies w g L.toArray := by
  have hl := h.len
  rcases h.2 with ⟨hv, h0⟩ | ⟨g, cap, cur, hv, h1, h2, h3, h4, h5, h6⟩
  · injection hv with e1 e2 e3
    exact .inl ⟨e1, h0, e3⟩
  · injection hv with e1 _ e3
    subst e3
    refine .inr ⟨g, e1, h1, h3, h4, lies_list (cs := cur) h2 fun i hi => ?_⟩
    obtain ⟨a1, a2⟩ := cellsL_at hi
    rw [← h6] at a1 a2
    rw [List.getElem?_take_of_lt (by omega)] at a1 a2
    exact ⟨by simpa using a1, by simpa using a2⟩
theorem Lies.get (h : Lies w g L.toArray) {i : Nat} (hi : i < L.length) : w.cell? ⟨g, i * 2, none⟩ = some (.string L[i].1) ∧ w.cell? ⟨g, i * 2 + 1, none⟩ = some (.string L[i].2) := by
  have h0 := h.c0 (i := i) (by simpa using hi)
  have h1 := h.c1 (i := i) (by simpa using hi)
  have e : L.toArray[i]! = L[i] := by simp [hi]
  rw [e] at h0 h1
  exact ⟨h0, h1⟩
theorem Lies.rd (h : Lies w g L.toArray) : Rd w (g + 1) (some ⟨g, 0, none⟩) (cellsL L) := fun _ => by
  refine ⟨_, rfl, Nat.lt_succ_self _, fun j hj => ?_⟩
  have hj' := hj
  rw [cellsL_len] at hj'
  have e : (⟨g, 0, none⟩ : Addr).add j = ⟨g, j, none⟩ := by unfold Addr.add; split <;> simp_all
  rw [e]
  have hlt : j / 2 < L.length := by omega
  obtain ⟨h0, h1⟩ := h.get hlt
  obtain ⟨a0, a1⟩ := cellsL_at hlt
  rcases (by omega : j = j / 2 * 2 ∨ j = j / 2 * 2 + 1) with hx | hx
  · rw [← hx] at h0 a0
    rw [h0, ← a0, List.getElem?_eq_getElem hj]
  · rw [← hx] at h1 a1
    rw [h1, ← a1, List.getElem?_eq_getElem hj]
/-- A span is stored at a place. -/
theorem Lies.put {i : Nat} (h : Lies w g d) (hi : i < d.size) (s : Sn) : Lies ((w.setCell ⟨g, i * 2, none⟩ (.string s.1)).setCell ⟨g, i * 2 + 1, none⟩ (.string s.2)) g (d.setIfInBounds i s) := by
  obtain ⟨cs, h, hc⟩ := h
  have z : ∀ x, x < d.size → x * 2 + 1 < cs.size := fun x hx => (Array.getElem?_eq_some_iff.1 (hc x hx).2).1
  have zi := z i hi
  refine ⟨_, (h.set _ _).set _ _, ?_⟩
  intro x hx
  rw [Array.size_setIfInBounds] at hx
  have zx := z x hx
  have hcx := hc x hx
  have e1 : i * 2 + 1 = x * 2 ↔ False := ⟨fun h => by omega, False.elim⟩
  have e2 : i * 2 = x * 2 + 1 ↔ False := ⟨fun h => by omega, False.elim⟩
  have e3 : i * 2 = x * 2 ↔ i = x := ⟨fun h => by omega, fun h => by rw [h]⟩
  have e4 : i * 2 + 1 = x * 2 + 1 ↔ i = x := ⟨fun h => by omega, fun h => by rw [h]⟩
  simp only [Array.getElem?_setIfInBounds, Array.size_setIfInBounds, e1, e2, e3, e4, if_false]
  by_cases hxi : i = x
  · subst hxi
    simp [show i * 2 < cs.size by omega, zx, hx]
  · simp only [hxi, if_false]
    have e : (d.setIfInBounds i s)[x]! = d[x]! := by simp [getElem!_def, Array.getElem?_setIfInBounds, hxi]
    rw [e]
    exact hcx
end
/-- The first place of a list where something holds, or -1. -/
def Idx (p : Sn → Bool) (L : List Sn) (v : Int) : Prop := (∃ i : Nat, v = (i : Int) ∧ ∃ h : i < L.length, p L[i] = true ∧ ∀ s ∈ L.take i, p s = false) ∨ (v = -1 ∧ ∀ s ∈ L, p s = false)
theorem Idx.lo {p : Sn → Bool} {L : List Sn} {v : Int} (h : Idx p L v) : decide (0 ≤ v) = L.any p := by
  rcases h with ⟨i, rfl, h, hp, _⟩ | ⟨rfl, h⟩
  · rw [List.any_eq_true.2 ⟨_, List.getElem_mem h, hp⟩]
    simp
  · have : L.any p = false := by
      rw [← Bool.not_eq_true, List.any_eq_true]
      rintro ⟨s, hs, hp⟩
      rw [h s hs] at hp
      cases hp
    rw [this]
    rfl
set_option maxHeartbeats 1000000 in
theorem idxAny (fn : Nat) (caps : Array Value) (p : Sn → Bool) (w : World) (B n c : Nat) (A : Option Addr) (L : List Sn) (h : Rd w B A (cellsL L)) (hB : B ≤ w.heap.size) (hn : L.length = n) (hnm : n ≤ 1000)
    (hent : ∀ (a : Array Value) (W : World), (callFunc fn a).run Try.prog W = .ok (.enter fn a) W)
    (H : ∀ i (hi : i < L.length) W, Below w.heap.size w W → Calls Try.prog fn (#[.agg #[.string L[i].1, .string L[i].2]] ++ caps) W fun e W' => e = .returned (.bool (p L[i])) ∧ Below W.heap.size W W') :
    Calls Try.prog 40 #[.slice A n c, .func (.func fn) #[] caps] w fun e w' =>
      ∃ v : Int, e = .returned (.int .i64 v) ∧ Idx p L v ∧ Below w.heap.size w w' := by
  have HH := Lib.hid H
  have HR := Lib.hid h
  have HN := Lib.hid hn
  clear h hn H
  go_enter Try.func40, Try.ntmps40
  go_wp2
  go_loopw [8] (fun x8 wx => ∃ j : Nat, x8 = .int .i64 j ∧ j ≤ n ∧ Hid (∀ s ∈ L.take j, p s = false) ∧ Hid (Below w.heap.size w wx)) (fun x8 _ => n - (intOf x8).toNat)
  case atStart => exact ⟨0, rfl, Nat.zero_le _, Lib.hid (by simp), Lib.hid (Below.refl _ _)⟩
  case round =>
    obtain ⟨j, rfl, hj, HX, HB⟩ := hrel
    by_cases hlt : j < n
    · have hjL : j < L.length := by rw [HN.out]; exact hlt
      obtain ⟨b, off, rfl, hc1, hc2⟩ := spanAt (HR.out.below (HB.out.mono hB)) hjL
      have HC := Lib.hid (HH.out j hjL wr HB.out)
      have HYES : Hid (p L[j] = true → Idx p L (j : Int)) := fun hp => .inl ⟨j, rfl, hjL, hp, HX.out⟩
      have HNO : Hid (p L[j] = false → ∀ s ∈ L.take (j + 1), p s = false) := fun hp s hs => by
        rw [List.take_succ_eq_append_getElem hjL] at hs
        rcases List.mem_append.1 hs with hs | hs
        · exact HX.out s hs
        · rw [List.mem_singleton.1 hs]; exact hp
      generalize L[j] = x at *
      generalize p x = r at *
      obtain ⟨f, t⟩ := x
      dsimp only at hc1 hc2
      clear HX hjL HH HR
      cases r
      · go_wp2_with (refine HC.out.mono ?_; rintro e w1 ⟨rfl, hb1⟩)
        exact ⟨⟨j + 1, by go_num, hlt, Lib.hid (HNO.out (by trivial)), Lib.hid (HB.out.via hb1)⟩, by simp [intOf]; omega⟩
      · go_wp2_with (refine HC.out.mono ?_; rintro e w1 ⟨rfl, hb1⟩)
        go_ret
        exact ⟨_, rfl, HYES.out (by trivial), HB.out.via hb1⟩
    · go_wp2
      go_ret
      exact ⟨_, rfl, .inr ⟨rfl, by have e : L.take j = L := List.take_of_length_le (by rw [HN.out]; omega); rw [← e]; exact HX.out⟩, HB.out⟩
theorem cloneN (A : Option Addr) (n c B : Nat) (L : List Sn) (hl : L.length = n) (hn : n ≤ 1000) (w : World) (h : Rd w B A (cellsL L)) (hB : B ≤ w.heap.size) (hA : A = none → n = 0) : Calls Try.prog 31 #[.slice A n c] w fun e w' =>
    ∃ A' c', e = .returned (.slice A' n c') ∧ Own w' w.heap.size A' n c' L ∧ Below w.heap.size w w' := by
  have hE : Sem.run Try.prog (binOp .eql 32 (.slice A n c) (.slice none 0 0)) w = .ok (.bool A.isNone) w := Lib.run_eql_slice_nil w 32 26 A n c 0 0 Try.underlying32
  go_enter Try.func31, Try.ntmps31
  obtain ⟨i0, hi, hz0, hz1, hz2⟩ := info_parts spanInfo3
  have HI := Lib.hid hi
  have HR := Lib.hid h
  have HL : Hid ((cellsL L).length = n * 2) := Lib.hid (by rw [cellsL_len, hl])
  clear h hi
  cases A with
  | none =>
    obtain rfl := hA rfl
    go_wp2
    go_ret
    have : L = [] := List.eq_nil_of_length_eq_zero hl
    subst this
    exact ⟨none, 0, rfl, Own.nil, Below.refl _ _⟩
  | some ad =>
    clear hA hl
    go_wp2_with (at_builtin; refine wpList_appN rfl (.tmp 5) (.tmp 6) _ rfl w.heap.size 2 26 i0 _ 32 Try.underlying32 HI.out hz0 hz1 hz2 rfl (by decide) (some ⟨w.heap.size, 0, none⟩) 0 0 [] rfl ⟨rfl, .inr ⟨_, 0, #[], rfl, Nat.le_refl _, heap_alloc_new w _, Nat.le_refl _, by decide, rfl, rfl⟩⟩ B (some ad) n c (cellsL L) rfl HL.out (HR.out.alloc hB _) cellsL_cell (by unfold maxLen; omega) (by omega) (by simp) ?_; intro A1 c1' w1 ho1 hg1 hb1)
    go_ret
    rw [Nat.zero_add, List.nil_append] at ho1
    exact ⟨A1, c1', rfl, ho1, ((Below.refl _ _).alloc (Nat.le_refl _) _).trans hb1⟩
theorem zero_cells (k : Nat) : (Builtin.zeroCells (Value.agg #[.string ⟨#[]⟩, .string ⟨#[]⟩]).cells k).toList = (List.range (k * 2)).map fun _ => Value.string ⟨#[]⟩ := by
  unfold Builtin.zeroCells
  rw [Array.toList_map, Array.toList_range]
  refine List.map_congr_left fun i hi => ?_
  have : i % 2 = 0 ∨ i % 2 = 1 := by omega
  show (#[Value.string ⟨#[]⟩, .string ⟨#[]⟩] : Array Value)[i % 2]! = _
  rcases this with h | h <;> rw [h] <;> rfl
/-- What clear leaves of a row: what stood ahead. -/
theorem run_clearN (w : World) (g i k c : Nat) (ty : TypeId) (d : Array Sn) (h : Lies w g d) (hi : i + k + 1 = d.size) : ∃ w', Sem.run Try.prog (Builtin.clear_ #[32] ty #[.slice (some ⟨g, i * 2, none⟩) (k + 1) c]) w = .ok (.tuple #[]) w' ∧ Lies w' g (d.toList.take i).toArray ∧ ∀ B W, B ≤ g → Below B W w → Below B W w' := by
  obtain ⟨cs, hb, hc⟩ := h
  have hz : Try.t26.zero = some (.agg #[.string ⟨#[]⟩, .string ⟨#[]⟩]) := by kernel_rfl
  have hcs : d.size * 2 ≤ cs.size := by
    have := (Array.getElem?_eq_some_iff.1 (hc (d.size - 1) (by omega)).2).1
    omega
  have hst := run_storeCells_at Try.prog g (i * 2) 26 ((List.range ((k + 1) * 2)).map fun _ => Value.string ⟨#[]⟩) 0 cs w hb (by simp; omega) (by intro v hv; obtain ⟨_, _, rfl⟩ := List.mem_map.1 hv; rfl)
  refine ⟨w.setRow g (cs.toList.take (i * 2 + 0) ++ ((List.range ((k + 1) * 2)).map fun _ => Value.string ⟨#[]⟩) ++ cs.toList.drop (i * 2 + 0 + ((List.range ((k + 1) * 2)).map fun _ => Value.string ⟨#[]⟩).length)).toArray, ?_, ?_, fun B W hB hbl => ?_⟩
  · simp [Builtin.clear_, run_underlying Try.underlying32, zeroValue, hz, zero_cells, hst]
  · refine lies_list (hb.row _) fun x hx => ?_
    rw [List.length_take] at hx
    have hxd : x < d.size := by simp at hx; omega
    have hxi : x < i := by omega
    obtain ⟨h0, h1⟩ := hc x hxd
    have e : (d.toList.take i)[x]'(by rw [List.length_take]; exact hx) = d[x]! := by simp [hxd]
    rw [e]
    have hq : ∀ y, y < i * 2 → (cs.toList.take (i * 2 + 0) ++ ((List.range ((k + 1) * 2)).map fun _ => Value.string ⟨#[]⟩) ++ cs.toList.drop (i * 2 + 0 + ((List.range ((k + 1) * 2)).map fun _ => Value.string ⟨#[]⟩).length)).toArray[y]? = cs[y]? := fun y hy => by
      simp only [List.getElem?_toArray]
      rw [List.append_assoc, List.getElem?_append_left (by rw [List.length_take]; simp; omega), List.getElem?_take_of_lt (by omega)]
      simp
    rw [hq _ (by omega), hq _ (by omega)]
    exact ⟨h0, h1⟩
  · exact below_setRow hbl hB _
end Cib
