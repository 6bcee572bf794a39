/- Order: the law's few and short; what must come at any rate. -/
import Derived.Test.YtijinfmokbaahaaOrdE
import Derived.Laws.StructEq
set_option linter.unusedVariables false
set_option linter.unusedSimpArgs false
set_option maxRecDepth 20000
namespace Ord
open Go
def fitS (s : ByteArray × ByteArray) : Bool := decide (s.1.size ≤ 200) && decide (s.2.size ≤ 200)
def fewB (l : List (ByteArray × ByteArray)) : Bool := (l.take 100).all fitS && decide (l.length ≤ 40)
def shortB (l : List ByteArray) : Bool := (l.take 100).all (fun s => decide (s.size ≤ 200)) && decide (l.length ≤ 60)
theorem all_no {α : Type} {p : α → Bool} {l : List α} {j : Nat} (hj : j < l.length) (h100 : j < 100) (hf : p l[j] = false) : (l.take 100).all p = false := by
  have hm : l[j] ∈ l.take 100 := by
    have : (l.take 100)[j]'(by rw [List.length_take]; omega) = l[j] := by rw [List.getElem_take]
    rw [← this]
    exact List.getElem_mem _
  rw [List.all_eq_false]
  exact ⟨_, hm, by rw [hf]; decide⟩
theorem all_step {α : Type} {p : α → Bool} {l : List α} {j : Nat} (hj : j < l.length) (h : (l.take j).all p = true) (hf : p l[j] = true) : (l.take (j + 1)).all p = true := by
  rw [List.take_succ_eq_append_getElem hj, List.all_append, h]
  simpa using hf
theorem all_end {α : Type} {p : α → Bool} {l : List α} {j : Nat} (hj : l.length ≤ j ∨ 100 ≤ j) (hj2 : j ≤ l.length) (hj1 : j ≤ 100) (h : (l.take j).all p = true) : (l.take 100).all p = true := by
  rcases hj with hj | hj
  · have : j = l.length := by omega
    subst this
    rw [List.take_of_length_le (Nat.le_refl _)] at h
    rw [List.take_of_length_le hj1]
    exact h
  · have : j = 100 := by omega
    subst this
    exact h
end Ord
namespace Cib
open Go Go.RowKit Go.Proofs
theorem strAt {w : World} {B : Nat} {A : Option Addr} {l : List ByteArray} (h : Rd w B A (l.map Value.string)) {i : Nat} (hi : i < l.length) : ∃ ad, A = some ad ∧ w.cell? (ad.add i) = some (.string l[i]) := by
  obtain ⟨ad, e, _, hc⟩ := h (by intro e; simp at e; subst e; simp at hi)
  refine ⟨ad, e, ?_⟩
  rw [hc i (by simpa using hi)]
  simp
set_option maxHeartbeats 1000000 in
theorem lawShort {w : World} {B : Nat} {A : Option Addr} {l : List ByteArray} (h : Rd w B A (l.map Value.string)) {n : Nat} (hn : l.length = n) (hnm : n ≤ maxLen) (c : Nat) :
    Calls Try.prog 8 #[.slice A n c] w fun e w' => e = .returned (.bool (Ord.shortB l)) ∧ w' = w := by
  unfold maxLen at hnm
  have HR := Lib.hid h
  have HN := Lib.hid hn
  clear h hn
  obtain ⟨r, HV⟩ : ∃ r, Hid (Ord.shortB l = r) := ⟨_, rfl⟩
  rw [HV.out]
  go_enter Try.func8, Try.ntmps8
  go_wp2
  go_loop [3] (fun i => ∃ j : Nat, j ≤ n ∧ j ≤ 100 ∧ i = .int .i64 j ∧ Hid (((l.take j).all fun s => decide (s.size ≤ 200)) = true)) (fun i => n - (intOf i).toNat)
  case atStart => exact ⟨0, Nat.zero_le _, Nat.zero_le _, rfl, (by rfl)⟩
  case round =>
    obtain ⟨j, hj, hj1, rfl, hx⟩ := hrel
    by_cases hlt : j < n ∧ j < 100
    · obtain ⟨hlt, h100⟩ := hlt
      have hjL : j < l.length := by rw [HN.out]; exact hlt
      obtain ⟨ad, rfl, hc⟩ := strAt HR.out hjL
      have HNO : Hid (200 < l[j].size → Ord.shortB l = false) := fun hs => by
        unfold Ord.shortB
        rw [Ord.all_no hjL h100 (p := fun s => decide (s.size ≤ 200)) (decide_eq_false (by omega)), Bool.false_and]
      have HNX : Hid (l[j].size ≤ 200 → ((l.take (j + 1)).all fun s => decide (s.size ≤ 200)) = true) := fun hs => Ord.all_step hjL hx.out (decide_eq_true hs)
      generalize l[j] = x at *
      clear hx hjL
      by_cases h2 : 200 < x.size
      · obtain rfl : r = false := by rw [← HV.out]; exact HNO.out h2
        go_wp2
        go_ret
        exact ⟨rfl, rfl⟩
      · have HNY := Lib.hid (HNX.out (by omega))
        clear HNX HNO
        go_wp2
        exact ⟨⟨j + 1, hlt, by omega, by go_num, HNY⟩, by simp [intOf]; omega⟩
    · have HE : Hid (decide ((n : Int) ≤ 60) = r) := by
        rw [← HV.out]
        unfold Ord.shortB
        rw [Ord.all_end (by rw [HN.out]; omega) (by rw [HN.out]; exact hj) hj1 hx.out, Bool.true_and, HN.out]
        exact decide_eq_decide.2 (by omega)
      go_wp2
      all_goals (go_ret; exact ⟨congrArg (fun b => Ending.returned (Value.bool b)) HE.out, rfl⟩)
theorem spanAt {w : World} {B : Nat} {A : Option Addr} {l : List (ByteArray × ByteArray)} (h : Rd w B A (l.map fun s => [Value.string s.1, .string s.2]).flatten) {i : Nat} (hi : i < l.length) :
    ∃ b off, A = some ⟨b, off, none⟩ ∧ w.cell? ⟨b, off + i * 2, none⟩ = some (.string l[i].1) ∧ w.cell? ⟨b, off + i * 2 + 1, none⟩ = some (.string l[i].2) := by
  obtain ⟨b, off, e, hb, hc⟩ := Rd.fieldAt (s := 2) h (by intro r hr; obtain ⟨x, _, rfl⟩ := List.mem_map.1 hr; rfl) (i := i) (by simpa using hi) (by decide)
  refine ⟨b, off, e, hc 0 _ ?_, hc 1 _ ?_⟩ <;> simp
set_option maxHeartbeats 1000000 in
theorem lawFew {w : World} {B : Nat} {A : Option Addr} {l : List (ByteArray × ByteArray)} (h : Rd w B A (l.map fun s => [Value.string s.1, .string s.2]).flatten) {n : Nat} (hn : l.length = n) (hnm : n ≤ maxLen) (c : Nat) :
    Calls Try.prog 14 #[.slice A n c] w fun e w' => e = .returned (.bool (Ord.fewB l)) ∧ w' = w := by
  unfold maxLen at hnm
  have HR := Lib.hid h
  have HN := Lib.hid hn
  clear h hn
  obtain ⟨r, HV⟩ : ∃ r, Hid (Ord.fewB l = r) := ⟨_, rfl⟩
  rw [HV.out]
  go_enter Try.func14, Try.ntmps14
  go_wp2
  go_loop [3] (fun i => ∃ j : Nat, j ≤ n ∧ j ≤ 100 ∧ i = .int .i64 j ∧ Hid (((l.take j).all Ord.fitS) = true)) (fun i => n - (intOf i).toNat)
  case atStart => exact ⟨0, Nat.zero_le _, Nat.zero_le _, rfl, (by rfl)⟩
  case round =>
    obtain ⟨j, hj, hj1, rfl, hx⟩ := hrel
    by_cases hlt : j < n ∧ j < 100
    · obtain ⟨hlt, h100⟩ := hlt
      have hjL : j < l.length := by rw [HN.out]; exact hlt
      obtain ⟨b, off, rfl, hc1, hc2⟩ := spanAt HR.out hjL
      have HNO : Hid (Ord.fitS l[j] = false → Ord.fewB l = false) := fun hs => by
        unfold Ord.fewB
        rw [Ord.all_no hjL h100 hs, Bool.false_and]
      have HNX : Hid (Ord.fitS l[j] = true → ((l.take (j + 1)).all Ord.fitS) = true) := fun hs => Ord.all_step hjL hx.out hs
      generalize l[j] = x at *
      obtain ⟨f, t⟩ := x
      dsimp only at hc1 hc2
      clear hx hjL
      by_cases h2 : 200 < f.size
      · obtain rfl : r = false := by rw [← HV.out]; exact HNO.out (by simp [Ord.fitS]; omega)
        go_wp2
        go_ret
        exact ⟨rfl, rfl⟩
      · by_cases h3 : 200 < t.size
        · obtain rfl : r = false := by rw [← HV.out]; exact HNO.out (by simp [Ord.fitS]; omega)
          go_wp2
          go_ret
          exact ⟨rfl, rfl⟩
        · have HNY := Lib.hid (HNX.out (by simp [Ord.fitS]; omega))
          clear HNX HNO
          go_wp2
          exact ⟨⟨j + 1, hlt, by omega, by go_num, HNY⟩, by simp [intOf]; omega⟩
    · have HE : Hid (decide ((n : Int) ≤ 40) = r) := by
        rw [← HV.out]
        unfold Ord.fewB
        rw [Ord.all_end (by rw [HN.out]; omega) (by rw [HN.out]; exact hj) hj1 hx.out, Bool.true_and, HN.out]
        exact decide_eq_decide.2 (by omega)
      go_wp2
      all_goals (go_ret; exact ⟨congrArg (fun b => Ending.returned (Value.bool b)) HE.out, rfl⟩)
theorem upL_a : (⟨(Ord.upL (⟨#[97]⟩ : ByteArray).data.toList).toArray⟩ : ByteArray) = ⟨#[98]⟩ := by decide
theorem spanEq (a b c d : ByteArray) (W : World) : Sem.run Try.prog (binOp .eql 26 (.agg #[.string a, .string b]) (.agg #[.string c, .string d])) W = .ok (.bool (a.toList == c.toList && b.toList == d.toList)) W := by
  go_simp
  by_cases h1 : a.toList = c.toList <;> by_cases h2 : b.toList = d.toList <;> simp [h1, h2]
set_option maxHeartbeats 400000 in
theorem lawOrders (w : World) : Calls Try.prog 9 #[] w fun e w' => e = .returned (.bool true) ∧ Below w.heap.size w w' := by
  have hp := fun W => ordPrefix ⟨#[97]⟩ (by decide) W
  rw [upL_a] at hp
  have hr1 : ∀ W, _ := fun W => ordRight ⟨#[107]⟩ W
  have hr2 : ∀ W, _ := fun W => ordRight ⟨#[]⟩ W
  unfold sp at hp
  dsimp only at hp
  have HP := Lib.hid hp
  rw [show (decide (0 < (⟨#[107]⟩ : ByteArray).size) && decide ((⟨#[107]⟩ : ByteArray).size ≤ 16)) = true by decide] at hr1
  rw [show (decide (0 < (⟨#[]⟩ : ByteArray).size) && decide ((⟨#[]⟩ : ByteArray).size ≤ 16)) = false by decide] at hr2
  have HR1 := Lib.hid hr1
  have HR2 := Lib.hid hr2
  clear hp hr1 hr2
  go_enter Try.func9, Try.ntmps9
  go_wp2_with (go_at_call 10; refine (HP.out _).mono ?_; rintro e w1 ⟨rfl, hb1⟩)
  have h0 : ∃ w2 : World, ((w1.alloc (.cells #[.string ⟨#[97]⟩, .string ⟨#[98]⟩] 26)).alloc (.cells #[.string ⟨#[98]⟩, .string ⟨#[100]⟩, .string ⟨#[97]⟩, .string ⟨#[99]⟩, .string ⟨#[101]⟩, .string ⟨#[101]⟩] 26)) = w2 ∧ Below w.heap.size w w2 ∧ w2.heap.size = w1.heap.size + 2 ∧ Two w2 w1.heap.size ⟨#[97]⟩ ⟨#[98]⟩ ∧ Rd w2 (w1.heap.size + 2) (some ⟨w1.heap.size + 1, 0, none⟩) (ex6.map Value.string) := by
    refine ⟨_, rfl, (hb1.alloc hb1.size _).alloc (by have := hb1.size; simp; omega) _, by simp, ⟨_, (Blk.new _ _ _).alloc _, rfl, rfl⟩, ?_⟩
    have := Rd.new (w1.alloc (.cells #[.string ⟨#[97]⟩, .string ⟨#[98]⟩] 26)) #[.string ⟨#[98]⟩, .string ⟨#[100]⟩, .string ⟨#[97]⟩, .string ⟨#[99]⟩, .string ⟨#[101]⟩, .string ⟨#[101]⟩] 26 (0, 0) (vs := ex6.map Value.string) rfl
    have e : (w1.alloc (.cells #[.string ⟨#[97]⟩, .string ⟨#[98]⟩] 26)).heap.size = w1.heap.size + 1 := by simp
    rw [e] at this
    exact this
  obtain ⟨w2, hw2, hb2, hs2, ht2, hr2⟩ := h0
  rw [hw2]
  clear hw2
  refine (ordUnion6 _ _ w2 hr2 (by omega)).mono ?_
  rintro e w3 ⟨g, c, rfl, ht3, hb3⟩
  have ht4 := ht2.below hb3 ht2.lt
  have HB3 := Lib.hid (hb2.via hb3)
  have d1 := ht4.c0
  have d2 := ht4.c1
  have d3 := ht3.c0
  have d4 := ht3.c1
  clear ht2 ht3 ht4 hb2 hb3 hr2 hs2
  have q1 : (binOp .eql 26 (.agg #[.string ⟨#[97]⟩, .string ⟨#[98]⟩]) (.agg #[.string ⟨#[97]⟩, .string ⟨#[98]⟩])).run Try.prog w3 = .ok (.bool true) w3 := by
    rw [spanEq]
    simp
  have q2 : (binOp .eql 26 (.agg #[.string ⟨#[97]⟩, .string ⟨#[100]⟩]) (.agg #[.string ⟨#[97]⟩, .string ⟨#[100]⟩])).run Try.prog w3 = .ok (.bool true) w3 := by
    rw [spanEq]
    simp
  go_wp2_with fail
  refine (HR1.out _).mono ?_
  rintro e w' ⟨rfl, rfl⟩
  go_wp2_with fail
  refine (HR2.out _).mono ?_
  rintro e w' ⟨rfl, rfl⟩
  go_wp2
  go_ret
  exact ⟨rfl, HB3.out⟩
end Cib
