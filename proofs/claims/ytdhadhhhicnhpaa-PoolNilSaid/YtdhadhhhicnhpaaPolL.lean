/- PoolOnce: what came in; few, in, without. -/
import Derived.Test.YtdhadhhhicnhpaaPolS
import Derived.Test.YtdhadhhhicnhpaaOpenI
import Derived.Test.YtdhadhhhicnhpaaRowsK
set_option linter.unusedVariables false
set_option linter.unusedSimpArgs false
set_option maxRecDepth 20000
namespace Cib
open Go Go.RowKit Go.Proofs Go.ChangeShapes Go.WideShapes Go.Deep
/-- Numbers as they came in. -/
structure IntR where
  A : Option Addr
  c : Nat
  l : List Int
def IntR.v (x : IntR) : Value := .slice x.A x.l.length x.c
structure IntR.ok (w : World) (B : Nat) (x : IntR) : Prop where
  rd : Rd w B x.A (x.l.map zv)
  len : x.l.length ≤ maxLen
  size : ∀ k ∈ x.l, -9223372036854775808 ≤ k ∧ k ≤ 9223372036854775807
theorem IntR.ok.below {w w' : World} {B : Nat} {x : IntR} (h : x.ok w B) (hb : Below B w w') : x.ok w' B := ⟨h.rd.below hb, h.len, h.size⟩
theorem open_intR {H : Type} {enc : TypeId × Value → H} {w : World} {held : Bool} {fuel : Nat} {v : Value} {x : DataW H × List MemPlace} (h : DataW.trod enc Try.prog w 0 (fun _ => true) held fuel 27 [v] = some x) : ∃ y : IntR, v = y.v ∧ y.ok w w.heap.size := by
  have h' := h
  rcases open_ints Try.underlying27 Try.underlying3 (by kernel_rfl) h' with ⟨hcs, _⟩ | ⟨a, l, c', zs, hcs, _⟩
  · simp only [List.cons.injEq, and_true] at hcs
    subst hcs
    exact ⟨⟨none, 0, []⟩, rfl, ⟨Rd.nil _ _ _, Nat.zero_le _, fun k hk => by cases hk⟩⟩
  · simp only [List.cons.injEq, and_true] at hcs
    subst hcs
    obtain ⟨xs, hn, hl, hm, hr, hz⟩ := open_introw h
    subst hn
    exact ⟨⟨some a, c', xs⟩, rfl, ⟨hr, by show xs.length ≤ maxLen; omega, hz⟩⟩
/-- An act as it came in. -/
structure ActP where
  kind : Int
  n : Int
  x : IntR
  e : Nat
def actPRow (r : ActP) : List Value := [.int .i64 r.kind, .int .i64 r.n, r.x.v, .int .u64 (r.e : Int)]
def ActP.ok (w : World) (B : Nat) (r : ActP) : Prop := (-9223372036854775808 ≤ r.n ∧ r.n ≤ 9223372036854775807) ∧ r.x.ok w B ∧ r.e < 18446744073709551616
theorem open_actPs {H : Type} {enc : TypeId × Value → H} {w : World} {held : Bool} {fuel : Nat} {A : Option Addr} {n c : Nat} {x : DataW H × List MemPlace} (h : DataW.trod enc Try.prog w 0 (fun _ => true) held fuel 22 [.slice A n c] = some x) :
    ∃ l : List ActP, l.length = n ∧ n ≤ c ∧ c ≤ maxLen ∧ Rd w w.heap.size A (l.map actPRow).flatten ∧ ∀ x ∈ l, x.ok w w.heap.size := by
  obtain ⟨rows, hrl, hl, hm, hr, hrows⟩ := open_rows Try.underlying22 Try.underlying30 (by kernel_rfl) (by kernel_rfl) (by decide) h
  have hall : ∀ r ∈ rows, ∃ y : { y : ActP // y.ok w w.heap.size }, r = actPRow y.1 := by
    intro r hr
    obtain ⟨hlen, m, hf⟩ := hrows r hr
    obtain ⟨v0, y0, e0, t0⟩ := hf 0 _ rfl
    obtain ⟨v1, y1, e1, t1⟩ := hf 1 _ rfl
    obtain ⟨v2, y2, e2, t2⟩ := hf 2 _ rfl
    obtain ⟨v3, y3, e3, t3⟩ := hf 3 _ rfl
    obtain ⟨a, ha, _, wa⟩ := DataW.trod_int Try.underlying3 t0
    obtain ⟨b, hb, _, wb⟩ := DataW.trod_int Try.underlying3 t1
    obtain ⟨y, hy, oky⟩ := open_intR t2
    obtain ⟨d, hd, _, wd⟩ := DataW.trod_int Try.underlying28 t3
    simp only [List.cons.injEq, and_true] at ha hb hd
    subst ha
    subst hb
    subst hy
    subst hd
    obtain ⟨k, rfl, hk⟩ := wf_u64 wd
    have h4 : r.length = 4 := hlen
    refine ⟨⟨⟨a, b, y, k⟩, wf_i64 wb, oky, hk⟩, ?_⟩
    match r, h4 with
    | [r0, r1, r2, r3], _ =>
      simp at e0 e1 e2 e3
      rw [e0, e1, e2, e3]
      rfl
  obtain ⟨l, rfl⟩ := list_map (fun y : { y : ActP // y.ok w w.heap.size } => actPRow y.1) rows hall
  refine ⟨l.map (·.1), by simpa using hrl, hl, hm, by rw [List.map_map]; exact hr, ?_⟩
  intro x hx
  obtain ⟨y, _, rfl⟩ := List.mem_map.1 hx
  exact y.2
theorem actP_at {w : World} {B : Nat} {A : Option Addr} {l : List ActP} (h : Rd w B A (l.map actPRow).flatten) {i : Nat} (hi : i < l.length) :
    ∃ b off, A = some ⟨b, off, none⟩ ∧ b < B ∧ w.cell? ⟨b, off + i * 4, none⟩ = some (.int .i64 l[i].kind) ∧ w.cell? ⟨b, off + i * 4 + 1, none⟩ = some (.int .i64 l[i].n) ∧ w.cell? ⟨b, off + i * 4 + 2, none⟩ = some l[i].x.v ∧ w.cell? ⟨b, off + i * 4 + 3, none⟩ = some (.int .u64 (l[i].e : Int)) := by
  obtain ⟨b, off, e, hb, hc⟩ := Rd.fieldAt (s := 4) h (by intro r hr; obtain ⟨x, _, rfl⟩ := List.mem_map.1 hr; rfl) (i := i) (by simpa using hi) (by decide)
  refine ⟨b, off, e, hb, hc 0 _ ?_, hc 1 _ ?_, hc 2 _ ?_, hc 3 _ ?_⟩ <;> simp [actPRow]
def fewP (l : List ActP) : Bool := ((l.take 100).all fun x => decide (x.x.l.length ≤ 100)) && decide (l.length ≤ 80)
theorem fewP_of {l : List ActP} (h : fewP l = true) : l.length ≤ 80 ∧ ∀ x ∈ l, x.x.l.length ≤ 100 := by
  unfold fewP at h
  rw [Bool.and_eq_true, decide_eq_true_eq] at h
  refine ⟨h.2, fun x hx => ?_⟩
  rw [List.take_of_length_le (by omega)] at h
  exact of_decide_eq_true (List.all_eq_true.1 h.1 x hx)
theorem all_noP {α : Type} {p : α → Bool} {l : List α} {j : Nat} (hj : j < l.length) (h100 : j < 100) (hf : p l[j] = false) : (l.take 100).all p = false := by
  have hm : l[j] ∈ l.take 100 := by
    have : (l.take 100)[j]'(by rw [List.length_take]; omega) = l[j] := by rw [List.getElem_take]
    rw [← this]
    exact List.getElem_mem _
  rw [List.all_eq_false]
  exact ⟨_, hm, by rw [hf]; decide⟩
theorem all_stepP {α : Type} {p : α → Bool} {l : List α} {j : Nat} (hj : j < l.length) (h : (l.take j).all p = true) (hf : p l[j] = true) : (l.take (j + 1)).all p = true := by
  rw [List.take_succ_eq_append_getElem hj, List.all_append, h]
  simpa using hf
theorem all_endP {α : Type} {p : α → Bool} {l : List α} {j : Nat} (hj : l.length ≤ j ∨ 100 ≤ j) (hj2 : j ≤ l.length) (hj1 : j ≤ 100) (h : (l.take j).all p = true) : (l.take 100).all p = true := by
  rcases hj with hj | hj
  · have : j = l.length := by omega
    subst this
    rw [List.take_of_length_le (Nat.le_refl _)] at h
    rw [List.take_of_length_le hj1]
    exact h
  · have : j = 100 := by omega
    subst this
    exact h
set_option maxHeartbeats 1000000 in
theorem lawFewP {w : World} {B : Nat} {A : Option Addr} {l : List ActP} (h : Rd w B A (l.map actPRow).flatten) {n : Nat} (hn : l.length = n) (hnm : n ≤ maxLen) (c : Nat) :
    Calls Try.prog 6 #[.slice A n c] w fun e w' => e = .returned (.bool (fewP l)) ∧ w' = w := by
  unfold maxLen at hnm
  have HR := Lib.hid h
  have HN := Lib.hid hn
  clear h hn
  obtain ⟨r, HV⟩ : ∃ r, Hid (fewP l = r) := ⟨_, rfl⟩
  rw [HV.out]
  go_enter Try.func6, Try.ntmps6
  go_wp2
  go_loop [3] (fun i => ∃ j : Nat, j ≤ n ∧ j ≤ 100 ∧ i = .int .i64 j ∧ Hid (((l.take j).all fun x => decide (x.x.l.length ≤ 100)) = true)) (fun i => n - (intOf i).toNat)
  case atStart => exact ⟨0, Nat.zero_le _, Nat.zero_le _, rfl, (by rfl)⟩
  case round =>
    obtain ⟨j, hj, hj1, rfl, hx⟩ := hrel
    by_cases hlt : j < n ∧ j < 100
    · obtain ⟨hlt, h100⟩ := hlt
      have hjL : j < l.length := by rw [HN.out]; exact hlt
      obtain ⟨b, off, rfl, _, _, _, hc, _⟩ := actP_at HR.out hjL
      have HNO : Hid (100 < l[j].x.l.length → fewP l = false) := fun hs => by
        unfold fewP
        rw [all_noP hjL h100 (p := fun x : ActP => decide (x.x.l.length ≤ 100)) (decide_eq_false (by omega)), Bool.false_and]
      have HNX : Hid (l[j].x.l.length ≤ 100 → ((l.take (j + 1)).all fun x => decide (x.x.l.length ≤ 100)) = true) := fun hs => all_stepP hjL hx.out (decide_eq_true hs)
      generalize l[j] = x at *
      unfold IntR.v at hc
      generalize x.x.l.length = m at *
      clear hx hjL
      by_cases h2 : 100 < m
      · obtain rfl : r = false := by rw [← HV.out]; exact HNO.out h2
        go_wp2
        go_ret
        exact ⟨rfl, rfl⟩
      · have HNY := Lib.hid (HNX.out (by omega))
        clear HNX HNO
        go_wp2
        exact ⟨⟨j + 1, hlt, by omega, by go_num, HNY⟩, by simp [intOf]; omega⟩
    · have HE : Hid (decide ((n : Int) ≤ 80) = r) := by
        rw [← HV.out]
        unfold fewP
        rw [all_endP (by rw [HN.out]; omega) (by rw [HN.out]; exact hj) hj1 hx.out, Bool.true_and, HN.out]
        exact decide_eq_decide.2 (by omega)
      go_wp2
      all_goals (go_ret; exact ⟨congrArg (fun b => Ending.returned (Value.bool b)) HE.out, rfl⟩)
set_option maxHeartbeats 1000000 in
theorem lawIn {w : World} {B : Nat} {A : Option Addr} {l : List Int} (h : Rd w B A (l.map zv)) {n : Nat} (hn : l.length = n) (hnm : n ≤ 65536) (c : Nat) (x : Int) :
    Calls Try.prog 9 #[.int .i64 x, .slice A n c] w fun e w' => e = .returned (.bool (decide (x ∈ l))) ∧ w' = w := by
  have HR := Lib.hid h
  have HN := Lib.hid hn
  clear h hn
  obtain ⟨r, HV⟩ : ∃ r, Hid (decide (x ∈ l) = r) := ⟨_, rfl⟩
  rw [HV.out]
  go_enter Try.func9, Try.ntmps9
  go_wp2
  go_loop [5] (fun i => ∃ j : Nat, j ≤ n ∧ i = .int .i64 j ∧ Hid (x ∉ l.take j)) (fun i => n - (intOf i).toNat)
  case atStart => exact ⟨0, Nat.zero_le _, rfl, Lib.hid (by simp)⟩
  case round =>
    obtain ⟨j, hj, rfl, hx⟩ := hrel
    by_cases hlt : j < n
    · have hjL : j < l.length := by rw [HN.out]; exact hlt
      obtain ⟨ad, rfl, hc⟩ := rd_z HR.out hjL
      have HY : Hid (l[j] = x → decide (x ∈ l) = true) := fun e => decide_eq_true (by rw [← e]; exact List.getElem_mem hjL)
      have HZ : Hid (l[j] ≠ x → x ∉ l.take (j + 1)) := fun e => by
        rw [List.take_succ_eq_append_getElem hjL, List.mem_append, List.mem_singleton]
        rintro (h | h)
        · exact hx.out h
        · exact e h.symm
      generalize l[j] = y at *
      clear hjL hx
      by_cases hxy : y = x
      · obtain rfl : r = true := by rw [← HV.out]; exact HY.out hxy
        subst hxy
        go_wp2
        go_ret
        exact ⟨rfl, rfl⟩
      · have HQ := Lib.hid (HZ.out hxy)
        go_wp2
        exact ⟨⟨j + 1, hlt, by go_num, HQ⟩, by simp [intOf]; omega⟩
    · obtain rfl : r = false := by
        rw [← HV.out]
        have := hx.out
        rw [List.take_of_length_le (by rw [HN.out]; omega)] at this
        exact decide_eq_false this
      go_wp2
      go_ret
      exact ⟨rfl, rfl⟩
/-- In the loop of without. -/
structure WoI (w : World) (L M : List Int) (k j : Nat) (A : Option Addr) (c : Nat) (wr : World) : Prop where
  len : ((L.take k).filter fun a => !decide (a ∈ M)).length = j
  own : wr.ownsRow w.heap.size 3 1 (.slice A j c) j (((L.take k).filter fun a => !decide (a ∈ M)).map zv)
  below : Below w.heap.size w wr
set_option maxHeartbeats 1000000 in
theorem lawWithout {w : World} {B1 B2 : Nat} {A1 A2 : Option Addr} {L M : List Int} (h1 : Rd w B1 A1 (L.map zv)) (h2 : Rd w B2 A2 (M.map zv)) (hb1 : B1 ≤ w.heap.size) (hb2 : B2 ≤ w.heap.size) {n1 n2 : Nat} (hn1 : L.length = n1) (hn2 : M.length = n2) (hm1 : n1 ≤ 65536) (hm2 : n2 ≤ 65536) (c1 c2 : Nat) :
    Calls Try.prog 11 #[.slice A1 n1 c1, .slice A2 n2 c2] w fun e w' => ∃ A n c, e = .returned (.slice A n c) ∧ (L.filter fun a => !decide (a ∈ M)).length = n ∧ w'.ownsRow w.heap.size 3 1 (.slice A n c) n ((L.filter fun a => !decide (a ∈ M)).map zv) ∧ Below w.heap.size w w' := by
  have H1 := Lib.hid h1
  have H2 := Lib.hid h2
  have HN1 := Lib.hid hn1
  have HN2 := Lib.hid hn2
  obtain ⟨i0, hi, hz0, hz1, hz2⟩ := info_parts infoInt
  clear h1 h2 hn1 hn2
  go_enter Try.func11, Try.ntmps11
  go_wp2
  go_loopw [5, 6] (fun l i wr => ∃ (k j : Nat) (A : Option Addr) (c : Nat), l = .slice A j c ∧ i = .int .i64 k ∧ k ≤ n1 ∧ j ≤ k ∧ Hid (WoI w L M k j A c wr)) (fun _ i _ => n1 - (intOf i).toNat)
  case atStart => exact ⟨0, 0, none, 0, rfl, rfl, Nat.zero_le _, Nat.le_refl _, Lib.hid ⟨rfl, World.ownsRow_nil _ _ _ _, Below.refl _ _⟩⟩
  case round =>
    obtain ⟨k, j, A, c, rfl, rfl, hk, hjk, hI⟩ := hrel
    by_cases hlt : k < n1
    · have hkL : k < L.length := by rw [HN1.out]; exact hlt
      obtain ⟨ad, rfl, hc⟩ := rd_z (H1.out.below (hI.out.below.mono hb1)) hkL
      have HIN := Lib.hid (lawIn (H2.out.below (hI.out.below.mono hb2)) HN2.out hm2 c2 L[k])
      have HFS := Lib.hid (filter_snoc (fun a => !decide (a ∈ M)) L k hkL)
      have hB := hI.out.below.size
      have HO := Lib.hid hI.out.own
      have HLL := Lib.hid hI.out.len
      have HNS : Hid ((((L.take k).filter fun a => !decide (a ∈ M)).map zv).length = j) := by rw [List.length_map]; exact HLL
      generalize decide (L[k] ∈ M) = r at *
      generalize L[k] = v at *
      clear hkL
      cases r
      · go_wp2_with (first | (go_at_call 9; refine HIN.out.mono ?_; rintro e w4 ⟨rfl, rfl⟩) | (at_builtin; go_loud (refine wpList_app _ rfl (.tmp 20) (.tmp 25) _ rfl w.heap.size 3 i0 _ 8 Try.underlying27 hi hz0 hz1 hz2 rfl A j c (((L.take k).filter fun a => !decide (a ∈ M)).map zv) rfl (HO.out.alloc _) _ (some ⟨w4.heap.size, 0, none⟩) 1 1 [zv v] rfl rfl (Rd.new w4 _ _ _ rfl) (by intro u hu; simp at hu; subst hu; rfl) (by unfold maxLen; omega) (by omega) (by simp; omega) ?_; intro A1 c1' w1 ho1 hg1 hb1; have HO1 := Lib.hid ho1; have HB1 := Lib.hid hb1; clear ho1 hg1 hb1)))
        go_roundw
        case rel =>
          have hbx := (Below.refl w.heap.size w4).alloc hB (.cells #[zv v] 3)
          refine ⟨k + 1, j + 1, A1, c1', rfl, by go_num, hlt, by omega, Lib.hid ⟨?_, ?_, hI.out.below.trans (hbx.trans HB1.out)⟩⟩
          · rw [HFS.out, if_pos (by rfl), List.length_append, HLL.out]
            rfl
          · rw [HFS.out, if_pos (by rfl), List.map_append]
            exact HO1.out
        case measure => simp [intOf]; omega
      · go_wp2_with (first | (go_at_call 9; refine HIN.out.mono ?_; rintro e w4 ⟨rfl, rfl⟩))
        go_roundw
        case rel =>
          refine ⟨k + 1, j, A, c, rfl, by go_num, hlt, by omega, Lib.hid ⟨?_, ?_, hI.out.below⟩⟩
          · rw [HFS.out, if_neg (by decide), List.append_nil]
            exact HLL.out
          · rw [HFS.out, if_neg (by decide), List.append_nil]
            exact HO.out
        case measure => simp [intOf]; omega
    · obtain rfl : k = n1 := by omega
      have HFT : Hid (L.take k = L) := Lib.hid (List.take_of_length_le (by rw [HN1.out]; exact Nat.le_refl _))
      have ho := hI.out.own
      have hl := hI.out.len
      rw [HFT.out] at ho hl
      have HO := Lib.hid ho
      have HLL := Lib.hid hl
      clear ho hl
      go_wp2
      go_ret
      exact ⟨A, j, c, rfl, HLL.out, HO.out, hI.out.below⟩
end Cib
