/- VerdictFirst: the rows that came in, the rows that committed, in plain words. -/
import Derived.Test.YtagnckiikljhkaaVrdD
set_option linter.unusedVariables false
set_option linter.unusedSimpArgs false
set_option maxRecDepth 20000
namespace Cib
open Go Go.RowKit Go.Proofs Go.ChangeShapes Go.WideShapes Go.Deep
/-- Keys as they came in: the slice, what it reads as. -/
structure KeyR where
  A : Option Addr
  c : Nat
  keys : List ByteArray
def KeyR.v (x : KeyR) : Value := .slice x.A x.keys.length x.c
structure KeyR.ok (w : World) (B : Nat) (x : KeyR) : Prop where
  rd : Rd w B x.A (x.keys.map sv)
  len : x.keys.length ≤ maxLen
  size : ∀ k ∈ x.keys, k.size ≤ maxLen
theorem KeyR.ok.below {w w' : World} {B : Nat} {x : KeyR} (h : x.ok w B) (hb : Below B w w') : x.ok w' B := ⟨h.rd.below hb, h.len, h.size⟩
theorem KeyR.ok.keyS {w : World} {B : Nat} {x : KeyR} (h : x.ok w B) (hB : B ≤ w.heap.size) : KeyS w B x.A x.keys :=
  ⟨h.rd.more hB, fun hn ad e => by
    obtain ⟨ad', e', hl, _⟩ := h.rd (by simpa using hn)
    rw [e] at e'
    injection e' with e'
    subst e'
    exact .inl hl⟩
section
variable {H : Type} {enc : TypeId × Value → H} {w : World} {held : Bool} {fuel : Nat}
/-- Texts that came in. -/
theorem open_keys {v : Value} {x : DataW H × List MemPlace} (h : DataW.trod enc Try.prog w 0 (fun _ => true) held fuel 27 [v] = some x) : ∃ y : KeyR, v = y.v ∧ y.ok w w.heap.size := by
  rcases open_strings Try.underlying27 Try.underlying9 (by kernel_rfl) h with ⟨hcs, _⟩ | ⟨a, l, c, ss, hcs, _, hl, hm, hz, _, hcell, hwz⟩
  · simp only [List.cons.injEq, and_true] at hcs
    subst hcs
    exact ⟨⟨none, 0, []⟩, rfl, ⟨Rd.nil _ _ _, Nat.zero_le _, fun k hk => by cases hk⟩⟩
  · simp only [List.cons.injEq, and_true] at hcs
    subst hcs
    have hz' : ss.length = c := by simpa using hz
    have hlen : (ss.take l).length = l := by simp; omega
    refine ⟨⟨some a, c, ss.take l⟩, by unfold KeyR.v; simp only [hlen], ⟨fun hn => ⟨a, rfl, ?_, fun j hj => ?_⟩, by simp only [hlen]; omega, fun k hk => hwz k (List.mem_of_mem_take hk)⟩⟩
    · have hp : 0 < ss.length := by
        rcases Nat.eq_zero_or_pos ss.length with h0 | h0
        · have : ss = [] := List.eq_nil_of_length_eq_zero h0
          subst this
          simp at hn
        · exact h0
      have := block_lt_of_cell (hcell 0 hp)
      rwa [addr_add_block] at this
    · have hj' : j < l := by simp at hj; omega
      rw [hcell j (by omega)]
      have hg : ss.getD j ByteArray.empty = ss[j]'(by omega) := by simp [List.getD, List.getElem?_eq_getElem (show j < ss.length by omega)]
      simp only [List.getElem_map, List.getElem_take, hg]
      rfl
end
/-- A transaction as it came in. -/
structure RunR where
  back : Int
  x : KeyR
def runRow (r : RunR) : List Value := [.int .i64 r.back, r.x.v]
def RunR.ok (w : World) (B : Nat) (r : RunR) : Prop := (-9223372036854775808 ≤ r.back ∧ r.back ≤ 9223372036854775807) ∧ r.x.ok w B
theorem open_runs {H : Type} {enc : TypeId × Value → H} {w : World} {held : Bool} {fuel : Nat} {A : Option Addr} {n c : Nat} {x : DataW H × List MemPlace} (h : DataW.trod enc Try.prog w 0 (fun _ => true) held fuel 22 [.slice A n c] = some x) :
    ∃ l : List RunR, l.length = n ∧ n ≤ c ∧ c ≤ maxLen ∧ Rd w w.heap.size A (l.map runRow).flatten ∧ ∀ x ∈ l, x.ok w w.heap.size := by
  obtain ⟨rows, hrl, hl, hm, hr, hrows⟩ := open_rows Try.underlying22 Try.underlying29 (by kernel_rfl) (by kernel_rfl) (by decide) h
  have hall : ∀ r ∈ rows, ∃ y : { y : RunR // y.ok w w.heap.size }, r = runRow y.1 := by
    intro r hr
    obtain ⟨hlen, m, hf⟩ := hrows r hr
    obtain ⟨v0, y0, e0, t0⟩ := hf 0 _ rfl
    obtain ⟨v1, y1, e1, t1⟩ := hf 1 _ rfl
    obtain ⟨a, ha, _, wa⟩ := DataW.trod_int Try.underlying3 t0
    obtain ⟨y, hy, oky⟩ := open_keys t1
    simp only [List.cons.injEq, and_true] at ha
    subst ha
    subst hy
    have h2 : r.length = 2 := hlen
    refine ⟨⟨⟨a, y⟩, wf_i64 wa, oky⟩, ?_⟩
    match r, h2 with
    | [r0, r1], _ =>
      simp at e0 e1
      rw [e0, e1]
      rfl
  obtain ⟨l, rfl⟩ := list_map (fun y : { y : RunR // y.ok w w.heap.size } => runRow y.1) rows hall
  refine ⟨l.map (·.1), by simpa using hrl, hl, hm, by rw [List.map_map]; exact hr, ?_⟩
  intro x hx
  obtain ⟨y, _, rfl⟩ := List.mem_map.1 hx
  exact y.2
theorem run_at {w : World} {B : Nat} {A : Option Addr} {l : List RunR} (h : Rd w B A (l.map runRow).flatten) {i : Nat} (hi : i < l.length) :
    ∃ b off, A = some ⟨b, off, none⟩ ∧ b < B ∧ w.cell? ⟨b, off + i * 2, none⟩ = some (.int .i64 l[i].back) ∧ w.cell? ⟨b, off + i * 2 + 1, none⟩ = some l[i].x.v := by
  obtain ⟨b, off, e, hb, hc⟩ := Rd.fieldAt (s := 2) h (by intro r hr; obtain ⟨x, _, rfl⟩ := List.mem_map.1 hr; rfl) (i := i) (by simpa using hi) (by decide)
  refine ⟨b, off, e, hb, hc 0 _ ?_, hc 1 _ ?_⟩ <;> simp [runRow]
/-- One that committed. -/
structure DoneR where
  start : Nat
  stamp : Nat
  x : KeyR
def doneRow (d : DoneR) : List Value := [.int .u64 (d.start : Int), .int .u64 (d.stamp : Int), d.x.v]
def doneCells (E : List DoneR) : List Value := (E.map doneRow).flatten
theorem doneCells_snoc (E : List DoneR) (d : DoneR) : doneCells (E ++ [d]) = doneCells E ++ doneRow d := by
  unfold doneCells
  simp
theorem done_at {w : World} {B : Nat} {A : Option Addr} {E : List DoneR} (h : Rd w B A (doneCells E)) {i : Nat} (hi : i < E.length) :
    ∃ b off, A = some ⟨b, off, none⟩ ∧ b < B ∧ w.cell? ⟨b, off + i * 3, none⟩ = some (.int .u64 (E[i].start : Int)) ∧ w.cell? ⟨b, off + i * 3 + 1, none⟩ = some (.int .u64 (E[i].stamp : Int)) ∧ w.cell? ⟨b, off + i * 3 + 2, none⟩ = some E[i].x.v := by
  obtain ⟨b, off, e, hb, hc⟩ := Rd.fieldAt (s := 3) h (by intro r hr; obtain ⟨x, _, rfl⟩ := List.mem_map.1 hr; rfl) (i := i) (by simpa using hi) (by decide)
  refine ⟨b, off, e, hb, hc 0 _ ?_, hc 1 _ ?_, hc 2 _ ?_⟩ <;> simp [doneRow]
/-- Does one that committed behind the start write one of the keys? -/
def clashB (start : Nat) (keys : List ByteArray) (d : DoneR) : Bool := decide (start < d.stamp) && Vrd.meetB d.x.keys keys
/-- The commits' stamps go 1, 2, ..; of two with a key in common the earlier one was there when the later one began. -/
structure Good (E : List DoneR) : Prop where
  stamp : ∀ i (h : i < E.length), E[i].stamp = i + 1
  good : ∀ i j (hi : i < E.length) (hj : j < E.length), j < i → E[i].start < E[j].stamp → Vrd.meetB E[i].x.keys E[j].x.keys = false
theorem Good.nil : Good [] := ⟨fun i h => by simp at h, fun i j hi => by simp at hi⟩
theorem Good.push {E : List DoneR} (h : Good E) {start : Nat} {x : KeyR} (hc : E.any (clashB start x.keys) = false) : Good (E ++ [⟨start, E.length + 1, x⟩]) := by
  constructor
  · intro i hi
    rw [List.getElem_append]
    split
    · exact h.stamp i _
    · rename_i h1
      simp only [List.getElem_singleton]
      simp at hi
      omega
  · intro i j hi hj hji hst
    simp only [List.length_append, List.length_singleton] at hi hj
    have hj1 : j < E.length := by omega
    rw [List.getElem_append_left hj1] at hst ⊢
    by_cases hi1 : i < E.length
    · rw [List.getElem_append_left hi1] at hst ⊢
      exact h.good i j hi1 hj1 hji hst
    · have e : (E ++ [(⟨start, E.length + 1, x⟩ : DoneR)])[i] = ⟨start, E.length + 1, x⟩ := by
        rw [List.getElem_append_right (by omega)]
        simp
      rw [e] at hst ⊢
      have := List.any_eq_false.1 hc E[j] (List.getElem_mem hj1)
      unfold clashB at this
      rw [decide_eq_true hst, Bool.true_and, Vrd.meetB_comm] at this
      simpa using this
/-- Ask's answer is the clash. -/
theorem late_clash {E : List DoneR} (h : Good E) (start : Nat) (keys : List ByteArray) : keys.any (Vrd.lateK (Vrd.memOf (E.map fun d => d.x.keys) 0) start) = E.any (clashB start keys) := by
  have hiff : keys.any (Vrd.lateK (Vrd.memOf (E.map fun d => d.x.keys) 0) start) = true ↔ E.any (clashB start keys) = true := by
    rw [List.any_eq_true, List.any_eq_true]
    constructor
    · rintro ⟨k, hk, hl⟩
      obtain ⟨j, hj, h1, h2⟩ := (Vrd.memOf_late _ 0 start k).1 hl
      have hj' : j < E.length := by simpa using hj
      rw [List.getElem_map] at h2
      refine ⟨E[j], List.getElem_mem hj', ?_⟩
      unfold clashB
      rw [Bool.and_eq_true, decide_eq_true_eq, Vrd.meetB_iff, h.stamp j hj']
      exact ⟨by omega, k, h2, hk⟩
    · rintro ⟨d, hd, hc⟩
      obtain ⟨j, hj, rfl⟩ := List.getElem_of_mem hd
      unfold clashB at hc
      rw [Bool.and_eq_true, decide_eq_true_eq, Vrd.meetB_iff, h.stamp j hj] at hc
      obtain ⟨h1, k, h2, h3⟩ := hc
      refine ⟨k, h3, (Vrd.memOf_late _ 0 start k).2 ⟨j, by simpa using hj, by omega, ?_⟩⟩
      rw [List.getElem_map]
      exact h2
  cases h1 : keys.any (Vrd.lateK (Vrd.memOf (E.map fun d => d.x.keys) 0) start) <;> cases h2 : E.any (clashB start keys) <;> simp_all
end Cib
