/- few; a verdict that isn't there, or that nobody made. -/
import Derived.Test.YtagnckiikljhkaaVrdE
set_option linter.unusedVariables false
set_option linter.unusedSimpArgs false
set_option maxRecDepth 20000
namespace Cib
open Go Go.RowKit Go.Proofs Go.ChangeShapes Go.WideShapes Go.Deep
/-- An act as it came in. -/
structure ActV where
  kind : Int
  n : Nat
  x : KeyR
def actRow (r : ActV) : List Value := [.int .i64 r.kind, .int .u64 (r.n : Int), r.x.v]
def ActV.ok (w : World) (B : Nat) (r : ActV) : Prop := r.n < 18446744073709551616 ∧ r.x.ok w B
theorem open_acts {H : Type} {enc : TypeId × Value → H} {w : World} {held : Bool} {fuel : Nat} {A : Option Addr} {n c : Nat} {x : DataW H × List MemPlace} (h : DataW.trod enc Try.prog w 0 (fun _ => true) held fuel 39 [.slice A n c] = some x) :
    ∃ l : List ActV, l.length = n ∧ n ≤ c ∧ c ≤ maxLen ∧ Rd w w.heap.size A (l.map actRow).flatten ∧ ∀ x ∈ l, x.ok w w.heap.size := by
  obtain ⟨rows, hrl, hl, hm, hr, hrows⟩ := open_rows Try.underlying39 Try.underlying42 (by kernel_rfl) (by kernel_rfl) (by decide) h
  have hall : ∀ r ∈ rows, ∃ y : { y : ActV // y.ok w w.heap.size }, r = actRow y.1 := by
    intro r hr
    obtain ⟨hlen, m, hf⟩ := hrows r hr
    obtain ⟨v0, y0, e0, t0⟩ := hf 0 _ rfl
    obtain ⟨v1, y1, e1, t1⟩ := hf 1 _ rfl
    obtain ⟨v2, y2, e2, t2⟩ := hf 2 _ rfl
    obtain ⟨a, ha, _, wa⟩ := DataW.trod_int Try.underlying3 t0
    obtain ⟨b, hb, _, wb⟩ := DataW.trod_int Try.underlying30 t1
    obtain ⟨y, hy, oky⟩ := open_keys t2
    simp only [List.cons.injEq, and_true] at ha hb
    subst ha
    subst hb
    subst hy
    obtain ⟨k, rfl, hk⟩ := wf_u64 wb
    have h3 : r.length = 3 := hlen
    refine ⟨⟨⟨a, k, y⟩, hk, oky⟩, ?_⟩
    match r, h3 with
    | [r0, r1, r2], _ =>
      simp at e0 e1 e2
      rw [e0, e1, e2]
      rfl
  obtain ⟨l, rfl⟩ := list_map (fun y : { y : ActV // y.ok w w.heap.size } => actRow y.1) rows hall
  refine ⟨l.map (·.1), by simpa using hrl, hl, hm, by rw [List.map_map]; exact hr, ?_⟩
  intro x hx
  obtain ⟨y, _, rfl⟩ := List.mem_map.1 hx
  exact y.2
theorem act_at {w : World} {B : Nat} {A : Option Addr} {l : List ActV} (h : Rd w B A (l.map actRow).flatten) {i : Nat} (hi : i < l.length) :
    ∃ b off, A = some ⟨b, off, none⟩ ∧ b < B ∧ w.cell? ⟨b, off + i * 3, none⟩ = some (.int .i64 l[i].kind) ∧ w.cell? ⟨b, off + i * 3 + 1, none⟩ = some (.int .u64 (l[i].n : Int)) ∧ w.cell? ⟨b, off + i * 3 + 2, none⟩ = some l[i].x.v := by
  obtain ⟨b, off, e, hb, hc⟩ := Rd.fieldAt (s := 3) h (by intro r hr; obtain ⟨x, _, rfl⟩ := List.mem_map.1 hr; rfl) (i := i) (by simpa using hi) (by decide)
  refine ⟨b, off, e, hb, hc 0 _ ?_, hc 1 _ ?_, hc 2 _ ?_⟩ <;> simp [actRow]
def fewK (keys : List ByteArray) : Bool := decide (keys.length ≤ 20) && keys.all fun k => decide (k.size ≤ 60)
def fewB (l : List ActV) : Bool := ((l.take 100).all fun x => fewK x.x.keys) && decide (l.length ≤ 60)
theorem fewB_of {l : List ActV} (h : fewB l = true) : l.length ≤ 60 ∧ ∀ x ∈ l, x.x.keys.length ≤ 20 := by
  unfold fewB at h
  rw [Bool.and_eq_true, decide_eq_true_eq] at h
  refine ⟨h.2, fun x hx => ?_⟩
  rw [List.take_of_length_le (by omega)] at h
  have := List.all_eq_true.1 h.1 x hx
  unfold fewK at this
  rw [Bool.and_eq_true, decide_eq_true_eq] at this
  exact this.1
theorem few_no {l : List ActV} {j : Nat} (hj : j < l.length) (h100 : j < 100) (hf : fewK l[j].x.keys = false) : fewB l = false := by
  unfold fewB
  have hm : l[j] ∈ l.take 100 := by
    have : (l.take 100)[j]'(by rw [List.length_take]; omega) = l[j] := by rw [List.getElem_take]
    rw [← this]
    exact List.getElem_mem _
  have : ((l.take 100).all fun x => fewK x.x.keys) = false := by
    rw [List.all_eq_false]
    exact ⟨_, hm, by rw [hf]; decide⟩
  rw [this, Bool.false_and]
theorem fewK_no {keys : List ByteArray} {j : Nat} (hj : j < keys.length) (h : 60 < keys[j].size) : fewK keys = false := by
  unfold fewK
  have : (keys.all fun k => decide (k.size ≤ 60)) = false := by
    rw [List.all_eq_false]
    exact ⟨_, List.getElem_mem hj, by rw [decide_eq_false (by omega)]; decide⟩
  rw [this, Bool.and_false]
set_option maxHeartbeats 1000000 in
theorem lawFew {w : World} {B : Nat} {A : Option Addr} {l : List ActV} (h : Rd w B A (l.map actRow).flatten) {n : Nat} (hn : l.length = n) (hnm : n ≤ maxLen) (hok : ∀ x ∈ l, x.ok w B) (c : Nat) :
    Calls Try.prog 12 #[.slice A n c] w fun e w' => e = .returned (.bool (fewB l)) ∧ w' = w := by
  unfold maxLen at hnm
  have HR := Lib.hid h
  have HN := Lib.hid hn
  have HOK := Lib.hid hok
  clear h hn hok
  obtain ⟨r, HV⟩ : ∃ r, Hid (fewB l = r) := ⟨_, rfl⟩
  rw [HV.out]
  go_enter Try.func12, Try.ntmps12
  go_wp2
  go_loopw [3, 4] (fun i _ wr => ∃ j : Nat, j ≤ n ∧ j ≤ 100 ∧ i = .int .i64 j ∧ Hid (((l.take j).all fun x => fewK x.x.keys) = true) ∧ wr = w) (fun i _ _ => n - (intOf i).toNat)
  case atStart => exact ⟨0, Nat.zero_le _, Nat.zero_le _, rfl, (by rfl), by first | rfl | trivial⟩
  case round =>
    obtain ⟨j, hj, hj1, rfl, hx, rfl⟩ := hrel
    by_cases hlt : j < n ∧ j < 100
    · obtain ⟨hlt, h100⟩ := hlt
      have hjL : j < l.length := by rw [HN.out]; exact hlt
      obtain ⟨b, off, rfl, _, _, _, hc⟩ := act_at HR.out hjL
      have HNO := Lib.hid (few_no hjL h100)
      have hxo := HOK.out _ (List.getElem_mem hjL)
      have HNX : Hid (fewK l[j].x.keys = true → ((l.take (j + 1)).all fun x => fewK x.x.keys) = true) := fun e => by
        rw [List.take_succ_eq_append_getElem hjL, List.all_append, hx.out]
        simpa using e
      generalize l[j] = x at *
      obtain ⟨kind, nn, ⟨Ax, cx, keys⟩⟩ := x
      have hxr := hxo.2
      unfold KeyR.v at hc
      simp only at hc hxr HNO HNX
      obtain ⟨m, HM⟩ : ∃ m, Hid (keys.length = m) := ⟨_, rfl⟩
      have hmm : m ≤ maxLen := by rw [← HM.out]; exact hxr.len
      unfold maxLen at hmm
      rw [HM.out] at hc
      have HXR := Lib.hid hxr
      clear hxo hxr hx hjL
      by_cases h20 : 20 < m
      · obtain rfl : r = false := by
          rw [← HV.out]
          apply HNO.out
          unfold fewK
          rw [decide_eq_false (by rw [HM.out]; omega), Bool.false_and]
        go_wp2
        go_ret
        exact ⟨rfl, rfl⟩
      · go_wp2
        go_loopw [4] (fun i wq => ∃ p : Nat, p ≤ m ∧ i = .int .i64 p ∧ Hid (((keys.take p).all fun k => decide (k.size ≤ 60)) = true) ∧ wq = wr) (fun i _ => m - (intOf i).toNat)
        case atStart => exact ⟨0, Nat.zero_le _, rfl, (by rfl), by first | rfl | trivial⟩
        case round =>
          obtain ⟨p, hp, rfl, hy, rfl⟩ := hrel
          by_cases hlt2 : p < m
          · have hpL : p < keys.length := by rw [HM.out]; exact hlt2
            obtain ⟨ad, rfl, hcp⟩ := rd_str HXR.out.rd hpL
            have HK0 := Lib.hid (fewK_no hpL)
            have hsz := HXR.out.size _ (List.getElem_mem hpL)
            unfold maxLen at hsz
            have HKX : Hid (keys[p].size ≤ 60 → ((keys.take (p + 1)).all fun k => decide (k.size ≤ 60)) = true) := fun e => by
              rw [List.take_succ_eq_append_getElem hpL, List.all_append, hy.out]
              simpa using e
            generalize keys[p] = s at *
            clear hy hpL
            by_cases h60 : 60 < s.size
            · obtain rfl : r = false := by rw [← HV.out]; exact HNO.out (HK0.out h60)
              go_wp2
              go_ret
              exact ⟨rfl, rfl⟩
            · have HKY := Lib.hid (HKX.out (by omega))
              clear HKX HK0
              go_wp2
              exact ⟨⟨p + 1, hlt2, by go_num, HKY, by first | rfl | trivial⟩, by simp [intOf]; omega⟩
          · have hpm : p = m := by omega
            have HNY := Lib.hid (HNX.out (by
              unfold fewK
              have := hy.out
              rw [List.take_of_length_le (by rw [HM.out]; omega)] at this
              rw [this, decide_eq_true (by rw [HM.out]; omega)]
              rfl))
            clear hy HNX HNO
            go_wp2
            exact ⟨⟨j + 1, hlt, by omega, by go_num, HNY, by first | rfl | trivial⟩, by simp [intOf]; omega⟩
    · have hr : r = decide (n ≤ 60) := by
        rw [← HV.out]
        unfold fewB
        by_cases h1 : n ≤ 100
        · have := hx.out
          rw [List.take_of_length_le (by rw [HN.out]; omega)] at this
          rw [List.take_of_length_le (by rw [HN.out]; omega), this, Bool.true_and, HN.out]
        · rw [decide_eq_false (show ¬ l.length ≤ 60 by rw [HN.out]; omega), Bool.and_false, decide_eq_false (by omega)]
      have HRR := Lib.hid hr
      clear HV hx hr
      by_cases h1 : j < n
      · have h2 : ¬ j < 100 := fun h => hlt ⟨h1, h⟩
        have h3 : ¬ n ≤ 60 := by omega
        obtain rfl : r = false := by rw [HRR.out, decide_eq_false h3]
        have hd : decide ((n : Int) ≤ 60) = false := by simp; omega
        go_wp2
        go_ret
        exact ⟨rfl, rfl⟩
      · by_cases h3 : n ≤ 60
        · obtain rfl : r = true := by rw [HRR.out, decide_eq_true h3]
          have hd : decide ((n : Int) ≤ 60) = true := by simp; omega
          go_wp2
          go_ret
          exact ⟨rfl, rfl⟩
        · obtain rfl : r = false := by rw [HRR.out, decide_eq_false h3]
          have hd : decide ((n : Int) ≤ 60) = false := by simp; omega
          go_wp2
          go_ret
          exact ⟨rfl, rfl⟩
/-- One that isn't there, or that nobody made. -/
def GoneV (w : World) (p : Option Addr) : Prop := p = none ∨ ∃ g, p = some ⟨g, 0, none⟩ ∧ Blk w g 49 #[.slice none 0 0, .map none, .int .u64 0]
variable {w w' : World} {p : Option Addr}
theorem GoneV.none (h : GoneV w p) : Calls Try.prog 16 #[.pointer p] w fun e w' => e = .returned (.bool true) ∧ w' = w :=
  vdNone0 p w (by
    rcases h with rfl | ⟨g, rfl, h⟩
    · exact .inl rfl
    · exact .inr ⟨g, rfl, h.cell 1⟩)
theorem gvAsk (h : GoneV w p) (start : Int) (v : Value) : Calls Try.prog 8 #[.pointer p, .int .u64 start, v] w fun e w' => e = .returned (.tuple #[.string ⟨#[]⟩, .int .u64 0, .bool false]) ∧ w' = w := by
  have H := Lib.hid h.none
  clear h
  go_enter Try.func8, Try.ntmps8
  go_wp2_with (go_at_call 16; refine H.out.mono ?_; rintro e w' ⟨rfl, rfl⟩)
  first | go_ret3 | go_ret
  exact ⟨rfl, rfl⟩
theorem gvNote (h : GoneV w p) (stamp : Int) (v : Value) : Calls Try.prog 10 #[.pointer p, .int .u64 stamp, v] w fun e w' => e = .returned (.bool false) ∧ w' = w := by
  have H := Lib.hid h.none
  clear h
  go_enter Try.func10, Try.ntmps10
  go_wp2_with (go_at_call 16; refine H.out.mono ?_; rintro e w' ⟨rfl, rfl⟩)
  go_ret
  exact ⟨rfl, rfl⟩
theorem gvForget (h : GoneV w p) (horizon : Int) : Calls Try.prog 14 #[.pointer p, .int .u64 horizon] w fun e w' => e = .returned (.int .i64 0) ∧ w' = w := by
  have H := Lib.hid h.none
  clear h
  go_enter Try.func14, Try.ntmps14
  go_wp2_with (go_at_call 16; refine H.out.mono ?_; rintro e w' ⟨rfl, rfl⟩)
  go_ret
  exact ⟨rfl, rfl⟩
theorem gvLen (h : GoneV w p) : Calls Try.prog 11 #[.pointer p] w fun e w' => e = .returned (.int .i64 0) ∧ w' = w := by
  have H := Lib.hid h.none
  clear h
  go_enter Try.func11, Try.ntmps11
  go_wp2_with (go_at_call 16; refine H.out.mono ?_; rintro e w' ⟨rfl, rfl⟩)
  go_ret
  exact ⟨rfl, rfl⟩
theorem gvLast (h : GoneV w p) : Calls Try.prog 15 #[.pointer p] w fun e w' => e = .returned (.int .u64 0) ∧ w' = w := by
  have H := Lib.hid h.none
  clear h
  go_enter Try.func15, Try.ntmps15
  go_wp2_with (go_at_call 16; refine H.out.mono ?_; rintro e w' ⟨rfl, rfl⟩)
  go_ret
  exact ⟨rfl, rfl⟩
theorem gvCopy (h : GoneV w p) : Calls Try.prog 13 #[.pointer p] w fun e w' => e = .returned (.pointer none) ∧ w' = w := by
  have H := Lib.hid h.none
  clear h
  go_enter Try.func13, Try.ntmps13
  go_wp2_with (go_at_call 16; refine H.out.mono ?_; rintro e w' ⟨rfl, rfl⟩)
  go_ret
  exact ⟨rfl, rfl⟩
end Cib
