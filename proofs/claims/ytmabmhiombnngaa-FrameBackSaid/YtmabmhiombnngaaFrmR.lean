/- Records as texts, in plain Lean: put, read. No program. -/
import Derived.Test.YtmabmhiombnngaaNumG
import Derived.Test.YtmabmhiombnngaaOrdP
set_option linter.unusedVariables false
set_option linter.unusedSimpArgs false
set_option maxRecDepth 20000
namespace Frm
open Num (vb var part)
/-- The reading of few bytes at a place where a number was put. -/
theorem var_at (b r : List UInt8) (n : Nat) (hn : n < 18446744073709551616) : var (b ++ (vb n ++ r)) (b.length : Int) = (n, ((b ++ vb n).length : Int), 0) := by
  unfold Num.var
  rw [if_neg (by simp; omega), Int.toNat_natCast, List.drop_left, Num.rv_vb n hn r]
  simp
structure Blb where
  places : List Int
  gen : Nat
  size : Int
structure Chg where
  key : ByteArray
  dead : Bool
  blob : Blb
structure Rcd where
  stamp : Nat
  chs : List Chg
def nulB : Blb := ⟨[], 0, 0⟩
/-- May places be? -/
def where_ (l : List Int) : Bool := decide (∀ p ∈ l, 0 ≤ p ∧ p < 600) && decide (l.length ≤ 400)
def fits (c : Chg) : Bool := !(c.dead && decide (c.blob.size ≠ 0 ∨ c.blob.places.length ≠ 0 ∨ c.blob.gen ≠ 0)) && decide (0 < c.key.size) && decide (c.key.size ≤ 16) && decide (0 ≤ c.blob.size) && decide (c.blob.size ≤ 400) && where_ c.blob.places
def rightFrom (key : ByteArray) : List Chg → Bool
  | [] => true
  | c :: cs => fits c && Ord.lt key c.key && rightFrom c.key cs
def right (r : Rcd) : Bool := rightFrom Ord.z r.chs && decide (r.chs.length ≤ 16)
def blB (b : Blb) : List UInt8 := vb b.size.toNat ++ (vb b.gen ++ (vb b.places.length ++ b.places.flatMap fun p => vb p.toNat))
def chB (c : Chg) : List UInt8 := (vb c.key.size ++ c.key.data.toList) ++ (if c.dead then [1] else 0 :: blB c.blob)
def recB (r : Rcd) : List UInt8 := vb r.stamp ++ (vb r.chs.length ++ r.chs.flatMap chB)
/-! Reading: where it stands, and the error so far. -/
abbrev St := Int × Nat
def fail (bad : Bool) (e : Nat) (st : St) : St := if bad = true ∧ st.2 = 0 then (st.1, e) else st
def rdNum (bs : List UInt8) (st : St) : Nat × St := if st.2 ≠ 0 then (0, st) else ((var bs st.1).1, if (var bs st.1).2.2 = 0 then ((var bs st.1).2.1, 0) else (st.1, (var bs st.1).2.2))
def rdTake (bs : List UInt8) (most : Nat) (st : St) : Nat × St :=
  if st.2 ≠ 0 then (0, st)
  else if (var bs st.1).2.2 ≠ 0 then (0, ((var bs st.1).2.1, (var bs st.1).2.2))
  else if most < (var bs st.1).1 then (0, ((var bs st.1).2.1, 3))
  else ((var bs st.1).1, ((var bs st.1).2.1, 0))
def rdPlaces (bs : List UInt8) : Nat → St → List Int × St
  | 0, st => ([], st)
  | k + 1, st => (((rdTake bs 599 st).1 : Int) :: (rdPlaces bs k (rdTake bs 599 st).2).1, (rdPlaces bs k (rdTake bs 599 st).2).2)
def rdBlob (bs : List UInt8) (at_ : Int) : Blb × Int × Nat :=
  let s := rdTake bs 400 (at_, 0)
  let g := rdTake bs 18446744073709551615 s.2
  let n := rdTake bs 400 g.2
  let l := rdPlaces bs n.1 n.2
  if l.2.2 ≠ 0 then (nulB, 0, l.2.2) else (⟨l.1, g.1, s.1⟩, l.2.1, 0)
def rdKey (bs : List UInt8) (behind : ByteArray) (st : St) : ByteArray × St :=
  let v : ByteArray × St := if st.2 ≠ 0 then (Ord.z, st) else (⟨(part bs st.1 16).1.toArray⟩, if (part bs st.1 16).2.2 = 0 then ((part bs st.1 16).2.1, 0) else (st.1, (part bs st.1 16).2.2))
  (v.1, fail (!Ord.lt behind v.1) 3 v.2)
def rdFlag (bs : List UInt8) (st : St) : Bool × St :=
  let v : Nat × St := if st.2 ≠ 0 then (0, st) else ((Go.Proofs.Ytmabmhiombnngaa.getP bs st.1 1).1, if (Go.Proofs.Ytmabmhiombnngaa.getP bs st.1 1).2 = 0 then (st.1 + 1, 0) else (st.1, (Go.Proofs.Ytmabmhiombnngaa.getP bs st.1 1).2))
  (decide (v.1 = 1), fail (decide (1 < v.1)) 3 v.2)
def rdChg (bs : List UInt8) (behind : ByteArray) (st : St) : Chg × St :=
  let k := rdKey bs behind st
  let f := rdFlag bs k.2
  if f.1 = true then (⟨k.1, true, nulB⟩, f.2)
  else if f.2.2 ≠ 0 then (⟨k.1, false, nulB⟩, f.2)
  else (⟨k.1, false, (rdBlob bs f.2.1).1⟩, if (rdBlob bs f.2.1).2.2 = 0 then ((rdBlob bs f.2.1).2.1, 0) else (f.2.1, (rdBlob bs f.2.1).2.2))
def rdChs (bs : List UInt8) : Nat → ByteArray → St → List Chg × St
  | 0, _, st => ([], st)
  | n + 1, key, st => if st.2 ≠ 0 then ([], st) else ((rdChg bs key st).1 :: (rdChs bs n (rdChg bs key st).1.key (rdChg bs key st).2).1, (rdChs bs n (rdChg bs key st).1.key (rdChg bs key st).2).2)
def getR (bs : List UInt8) : Rcd × Nat :=
  let s := rdNum bs (0, 0)
  let n := rdNum bs s.2
  let l := rdChs bs n.1 Ord.z (fail (decide (16 < n.1)) 3 n.2)
  let e := fail (decide (l.2.1 ≠ (bs.length : Int))) 3 l.2
  if e.2 ≠ 0 then (⟨0, []⟩, e.2) else (⟨s.1, l.1⟩, 0)
/-! What was put is read. -/
theorem rdTake_at {b r : List UInt8} {v most : Nat} (hv : v ≤ most) (h64 : v < 18446744073709551616) : rdTake (b ++ (vb v ++ r)) most ((b.length : Int), 0) = (v, (((b ++ vb v).length : Int), 0)) := by
  unfold rdTake
  rw [if_neg (by simp), var_at b r v h64, if_neg (by simp), if_neg (by simp only; omega)]
theorem rdNum_at {b r : List UInt8} {v : Nat} (h64 : v < 18446744073709551616) : rdNum (b ++ (vb v ++ r)) ((b.length : Int), 0) = (v, (((b ++ vb v).length : Int), 0)) := by
  unfold rdNum
  rw [if_neg (by simp), var_at b r v h64, if_pos rfl]
theorem rdPlaces_at : ∀ (l : List Int) (b r : List UInt8), (∀ p ∈ l, 0 ≤ p ∧ p < 600) → rdPlaces (b ++ ((l.flatMap fun p => vb p.toNat) ++ r)) l.length ((b.length : Int), 0) = (l, (((b ++ l.flatMap fun p => vb p.toNat).length : Int), 0))
  | [], b, r, h => by simp [rdPlaces]
  | p :: l, b, r, h => by
    have hp := h p (by simp)
    have e : b ++ (((p :: l).flatMap fun p => vb p.toNat) ++ r) = b ++ (vb p.toNat ++ ((l.flatMap fun p => vb p.toNat) ++ r)) := by simp
    have e2 : (b ++ vb p.toNat) ++ ((l.flatMap fun p => vb p.toNat) ++ r) = b ++ (vb p.toNat ++ ((l.flatMap fun p => vb p.toNat) ++ r)) := by simp
    have ih := rdPlaces_at l (b ++ vb p.toNat) r (fun q hq => h q (by simp [hq]))
    rw [e2] at ih
    rw [e, List.length_cons, rdPlaces, rdTake_at (by omega) (by omega), ih]
    simp
    omega
theorem rdBlob_at {b r : List UInt8} {x : Blb} (hg : x.gen < 18446744073709551616) (hs : 0 ≤ x.size ∧ x.size ≤ 400) (hw : where_ x.places = true) : rdBlob (b ++ (blB x ++ r)) (b.length : Int) = (x, ((b ++ blB x).length : Int), 0) := by
  unfold where_ at hw
  rw [Bool.and_eq_true, decide_eq_true_iff, decide_eq_true_iff] at hw
  unfold rdBlob blB
  have e1 := rdTake_at (b := b) (r := (vb x.gen ++ (vb x.places.length ++ ((x.places.flatMap fun p => vb p.toNat) ++ r)))) (v := x.size.toNat) (most := 400) (by omega) (by omega)
  have e2 := rdTake_at (b := b ++ vb x.size.toNat) (r := (vb x.places.length ++ ((x.places.flatMap fun p => vb p.toNat) ++ r))) (v := x.gen) (most := 18446744073709551615) (by omega) (by omega)
  have e3 := rdTake_at (b := b ++ vb x.size.toNat ++ vb x.gen) (r := ((x.places.flatMap fun p => vb p.toNat) ++ r)) (v := x.places.length) (most := 400) hw.2 (by omega)
  have e4 := rdPlaces_at x.places (b ++ vb x.size.toNat ++ vb x.gen ++ vb x.places.length) r hw.1
  simp only [List.append_assoc] at e1 e2 e3 e4 ⊢
  simp only [e1, e2, e3, e4]
  rw [if_neg (by simp), Int.toNat_of_nonneg hs.1]
theorem rdKey_at {b r : List UInt8} {key behind : ByteArray} (hk : key.size ≤ 16) (hl : Ord.lt behind key = true) : rdKey (b ++ ((vb key.size ++ key.data.toList) ++ r)) behind ((b.length : Int), 0) = (key, (((b ++ (vb key.size ++ key.data.toList)).length : Int), 0)) := by
  have hlen : key.data.toList.length = key.size := by rw [Array.length_toList]; rfl
  have hv : var (b ++ ((vb key.size ++ key.data.toList) ++ r)) (b.length : Int) = (key.size, ((b ++ vb key.size).length : Int), 0) := by
    rw [List.append_assoc (vb key.size)]
    exact var_at b (key.data.toList ++ r) key.size (by omega)
  have hp : part (b ++ ((vb key.size ++ key.data.toList) ++ r)) (b.length : Int) 16 = (key.data.toList, ((b ++ (vb key.size ++ key.data.toList)).length : Int), 0) := by
    unfold part
    rw [hv]
    simp only
    rw [if_neg (by simp), if_neg (by omega), Int.toNat_natCast, if_neg (by simp; omega)]
    refine Prod.ext ?_ (Prod.ext ?_ rfl)
    · show ((b ++ ((vb key.size ++ key.data.toList) ++ r)).drop (b ++ vb key.size).length).take key.size = key.data.toList
      rw [List.append_assoc (vb key.size), ← List.append_assoc b, List.drop_left, ← hlen, List.take_left]
    · show ((b ++ vb key.size).length : Int) + (key.size : Int) = _
      simp
      omega
  unfold rdKey
  simp only [hp, ne_eq, not_true_eq_false, if_false, if_true]
  have e : (⟨key.data.toList.toArray⟩ : ByteArray) = key := by cases key; simp
  simp only [e, hl]
  rfl
theorem getP_at {b r : List UInt8} (c : UInt8) : Go.Proofs.Ytmabmhiombnngaa.getP (b ++ (c :: r)) (b.length : Int) 1 = (c.toNat, 0) := by
  unfold Go.Proofs.Ytmabmhiombnngaa.getP
  rw [if_neg (by simp; omega), if_neg (by simp; omega), Int.toNat_natCast, List.drop_left]
  simp [Num.leN]
theorem rdFlag_at {b r : List UInt8} (d : Bool) : rdFlag (b ++ ((if d then (1 : UInt8) else 0) :: r)) ((b.length : Int), 0) = (d, (((b ++ [if d then (1 : UInt8) else 0]).length : Int), 0)) := by
  unfold rdFlag
  simp only [getP_at]
  cases d <;> simp [fail]
theorem rdChg_at {b r : List UInt8} {c : Chg} {behind : ByteArray} (hf : fits c = true) (hg : c.blob.gen < 18446744073709551616) (hl : Ord.lt behind c.key = true) : rdChg (b ++ (chB c ++ r)) behind ((b.length : Int), 0) = (c, (((b ++ chB c).length : Int), 0)) := by
  unfold fits at hf
  simp only [Bool.and_eq_true, decide_eq_true_iff, Bool.not_eq_true'] at hf
  obtain ⟨⟨⟨⟨⟨h1, h2⟩, h3⟩, h4⟩, h5⟩, h6⟩ := hf
  obtain ⟨key, dead, blob⟩ := c
  simp only at h1 h2 h3 h4 h5 h6 hl hg
  unfold rdChg chB
  simp only
  cases dead with
  | true =>
    have hb : blob = nulB := by
      obtain ⟨pl, g, s⟩ := blob
      simp only [Bool.true_and, decide_eq_false_iff_not, not_or, Classical.not_not] at h1
      obtain ⟨rfl, h1, rfl⟩ := h1
      rw [List.length_eq_zero_iff] at h1
      subst h1
      rfl
    subst hb
    have e1 := rdKey_at (b := b) (r := 1 :: r) h3 hl
    have e2 := rdFlag_at (b := b ++ (vb key.size ++ key.data.toList)) (r := r) true
    simp only [if_true, List.append_assoc, List.cons_append, List.nil_append] at e1 e2 ⊢
    simp only [e1, e2]
    simp
  | false =>
    have e1 := rdKey_at (b := b) (r := 0 :: (blB blob ++ r)) h3 hl
    have e2 := rdFlag_at (b := b ++ (vb key.size ++ key.data.toList)) (r := blB blob ++ r) false
    have e3 := rdBlob_at (b := b ++ (vb key.size ++ key.data.toList) ++ [0]) (r := r) (x := blob) hg ⟨h4, h5⟩ h6
    simp only [Bool.false_eq_true, if_false, List.append_assoc, List.cons_append, List.nil_append] at e1 e2 e3 ⊢
    simp only [e1, e2, Bool.false_eq_true, if_false]
    rw [if_neg (by simp)]
    simp only [e3, if_true]
theorem rdChs_at : ∀ (cs : List Chg) (b r : List UInt8) (key : ByteArray), rightFrom key cs = true → (∀ c ∈ cs, c.blob.gen < 18446744073709551616) → rdChs (b ++ (cs.flatMap chB ++ r)) cs.length key ((b.length : Int), 0) = (cs, (((b ++ cs.flatMap chB).length : Int), 0))
  | [], b, r, key, h, hg => by simp [rdChs]
  | c :: cs, b, r, key, h, hg => by
    rw [rightFrom, Bool.and_eq_true, Bool.and_eq_true] at h
    obtain ⟨⟨h1, h2⟩, h3⟩ := h
    have e : b ++ ((c :: cs).flatMap chB ++ r) = b ++ (chB c ++ (cs.flatMap chB ++ r)) := by simp
    have e2 : (b ++ chB c) ++ (cs.flatMap chB ++ r) = b ++ (chB c ++ (cs.flatMap chB ++ r)) := by simp
    have ih := rdChs_at cs (b ++ chB c) r c.key h3 (fun q hq => hg q (by simp [hq]))
    rw [e2] at ih
    rw [e, List.length_cons, rdChs, if_neg (by simp), rdChg_at h1 (hg c (by simp)) h2, ih]
    simp
theorem getR_put {r : Rcd} (hr : right r = true) (hs : r.stamp < 18446744073709551616) (hg : ∀ c ∈ r.chs, c.blob.gen < 18446744073709551616) : getR (recB r) = (r, 0) := by
  unfold right at hr
  rw [Bool.and_eq_true, decide_eq_true_iff] at hr
  unfold getR recB
  have e1 := rdNum_at (b := []) (r := vb r.chs.length ++ r.chs.flatMap chB) hs
  have e2 := rdNum_at (b := vb r.stamp) (r := r.chs.flatMap chB) (v := r.chs.length) (by omega)
  have e3 := rdChs_at r.chs (vb r.stamp ++ vb r.chs.length) [] Ord.z hr.1 hg
  simp only [List.nil_append, List.append_nil, List.append_assoc, List.length_nil] at e1 e2 e3
  have e1' : rdNum (vb r.stamp ++ (vb r.chs.length ++ r.chs.flatMap chB)) (0, 0) = (r.stamp, (((vb r.stamp).length : Int), 0)) := e1
  simp only [e1', e2]
  rw [show decide (16 < r.chs.length) = false from decide_eq_false (by omega)]
  rw [show fail false 3 (((vb r.stamp ++ vb r.chs.length).length : Int), 0) = (((vb r.stamp ++ vb r.chs.length).length : Int), 0) from rfl]
  simp only [e3]
  rw [show decide ((((vb r.stamp ++ (vb r.chs.length ++ r.chs.flatMap chB)).length : Nat) : Int) ≠ ((vb r.stamp ++ (vb r.chs.length ++ r.chs.flatMap chB)).length : Int)) = false from decide_eq_false (fun h => h rfl)]
  rfl
/-! What is read, and put again, are the bytes that were read. -/
theorem take_join {α : Type} (l : List α) {A P Q : Nat} (h : A ≤ P) (h' : P ≤ Q) : (l.drop A).take (Q - A) = (l.drop A).take (P - A) ++ (l.drop P).take (Q - P) := by
  rw [show Q - A = (P - A) + (Q - P) from by omega, List.take_add, List.drop_drop, show A + (P - A) = P from by omega]
theorem var_inv {bs : List UInt8} {at_ : Int} (h : (var bs at_).2.2 = 0) :
    ∃ a P : Nat, at_ = (a : Int) ∧ (var bs at_).2.1 = (P : Int) ∧ a ≤ P ∧ P ≤ bs.length ∧ (bs.drop a).take (P - a) = vb (var bs at_).1 ∧ (var bs at_).1 < 18446744073709551616 := by
  unfold var at h ⊢
  by_cases hc : at_ < 0 ∨ (bs.length : Int) < at_
  · rw [if_pos hc] at h
    simp at h
  · rw [if_neg hc] at h ⊢
    obtain ⟨a, rfl⟩ := Int.eq_ofNat_of_zero_le (by omega : 0 ≤ at_)
    rw [Int.toNat_natCast] at h ⊢
    simp only at h ⊢
    obtain ⟨q, e1, e2, e3, e4, e5, e6, e7⟩ := Num.rv_ok (bs.drop a) 0 0 (by omega) h
    rw [if_pos h]
    rw [List.length_drop] at e3
    have hq : (Num.rv (bs.drop a) 0 0).1 = q := by rw [e1]; simp
    refine ⟨a, a + (Num.rv (bs.drop a) 0 0).2.1, rfl, by simp, by omega, by omega, ?_, by rw [hq]; unfold Num.cap at e6; simpa using e6⟩
    rw [Nat.add_sub_cancel_left, hq]
    exact e4
/-- From a to p these bytes stand. -/
def Sg (bs : List UInt8) (a : Int) (x : List UInt8) (p : Int) : Prop := ∃ A P : Nat, a = (A : Int) ∧ p = (P : Int) ∧ A ≤ P ∧ P ≤ bs.length ∧ (bs.drop A).take (P - A) = x
theorem Sg.trans {bs x y : List UInt8} {a p q : Int} (h : Sg bs a x p) (h' : Sg bs p y q) : Sg bs a (x ++ y) q := by
  obtain ⟨A, P, rfl, rfl, h1, h2, rfl⟩ := h
  obtain ⟨P', Q, e, rfl, h3, h4, rfl⟩ := h'
  obtain rfl : P = P' := by omega
  exact ⟨A, Q, rfl, rfl, by omega, h4, take_join bs h1 h3⟩
theorem Sg.len {bs x : List UInt8} {a p : Int} (h : Sg bs a x p) : p = a + x.length ∧ 0 ≤ a ∧ p ≤ bs.length := by
  obtain ⟨A, P, rfl, rfl, h1, h2, rfl⟩ := h
  rw [List.length_take, List.length_drop]
  omega
section
variable {bs : List UInt8}
theorem rdTake_inv {most : Nat} {st : St} (h : (rdTake bs most st).2.2 = 0) : st.2 = 0 ∧ Sg bs st.1 (vb (rdTake bs most st).1) (rdTake bs most st).2.1 ∧ (rdTake bs most st).1 ≤ most ∧ (rdTake bs most st).1 < 18446744073709551616 := by
  unfold rdTake at h ⊢
  by_cases h0 : st.2 ≠ 0
  · rw [if_pos h0] at h
    exact absurd h h0
  · rw [if_neg h0] at h ⊢
    by_cases h1 : (var bs st.1).2.2 ≠ 0
    · rw [if_pos h1] at h
      exact absurd h h1
    · rw [if_neg h1] at h ⊢
      by_cases h2 : most < (var bs st.1).1
      · rw [if_pos h2] at h
        cases h
      · rw [if_neg h2]
        obtain ⟨a, P, e1, e2, e3, e4, e5, e6⟩ := var_inv (bs := bs) (at_ := st.1) (Classical.not_not.1 h1)
        exact ⟨Classical.not_not.1 h0, ⟨a, P, e1, e2, e3, e4, e5⟩, by simp only; omega, e6⟩
theorem rdNum_inv {st : St} (h : (rdNum bs st).2.2 = 0) : st.2 = 0 ∧ Sg bs st.1 (vb (rdNum bs st).1) (rdNum bs st).2.1 ∧ (rdNum bs st).1 < 18446744073709551616 := by
  unfold rdNum at h ⊢
  by_cases h0 : st.2 ≠ 0
  · rw [if_pos h0] at h
    exact absurd h h0
  · rw [if_neg h0] at h ⊢
    by_cases h1 : (var bs st.1).2.2 = 0
    · rw [if_pos h1]
      obtain ⟨a, P, e1, e2, e3, e4, e5, e6⟩ := var_inv (bs := bs) (at_ := st.1) h1
      exact ⟨Classical.not_not.1 h0, ⟨a, P, e1, e2, e3, e4, e5⟩, e6⟩
    · simp only [if_neg h1] at h
      exact absurd h h1
theorem rdPlaces_inv : ∀ (k : Nat) (st : St), (rdPlaces bs k st).2.2 = 0 → st.2 = 0 ∧ (rdPlaces bs k st).1.length = k ∧ (∀ p ∈ (rdPlaces bs k st).1, 0 ≤ p ∧ p < 600) ∧ ∀ a x, Sg bs a x st.1 → Sg bs a (x ++ (rdPlaces bs k st).1.flatMap fun p => vb p.toNat) (rdPlaces bs k st).2.1
  | 0, st, h => ⟨h, rfl, fun p hp => (by cases hp), fun a x hx => by simpa [rdPlaces] using hx⟩
  | k + 1, st, h => by
    rw [rdPlaces] at h
    obtain ⟨i1, i2, i3, i4⟩ := rdPlaces_inv k (rdTake bs 599 st).2 h
    obtain ⟨j1, j2, j3, j4⟩ := rdTake_inv (most := 599) i1
    rw [rdPlaces]
    refine ⟨j1, by simp only [List.length_cons, i2], fun p hp => ?_, fun a x hx => ?_⟩
    · rcases List.mem_cons.1 hp with rfl | hp
      · omega
      · exact i3 p hp
    · have := i4 a _ (hx.trans j2)
      simpa using this
theorem rdBlob_inv {a : Int} (h : (rdBlob bs a).2.2 = 0) : Sg bs a (blB (rdBlob bs a).1) (rdBlob bs a).2.1 ∧ (0 ≤ (rdBlob bs a).1.size ∧ (rdBlob bs a).1.size ≤ 400) ∧ (rdBlob bs a).1.gen < 18446744073709551616 ∧ where_ (rdBlob bs a).1.places = true := by
  unfold rdBlob at h ⊢
  simp only at h ⊢
  by_cases hl : (rdPlaces bs (rdTake bs 400 (rdTake bs 18446744073709551615 (rdTake bs 400 (a, 0)).2).2).1 (rdTake bs 400 (rdTake bs 18446744073709551615 (rdTake bs 400 (a, 0)).2).2).2).2.2 ≠ 0
  · rw [if_pos hl] at h
    exact absurd h hl
  · rw [if_neg hl]
    obtain ⟨i1, i2, i3, i4⟩ := rdPlaces_inv _ _ (Classical.not_not.1 hl)
    obtain ⟨j1, j2, j3, j4⟩ := rdTake_inv i1
    obtain ⟨k1, k2, k3, k4⟩ := rdTake_inv j1
    obtain ⟨l1, l2, l3, l4⟩ := rdTake_inv k1
    refine ⟨?_, by simp only; omega, by simp only; exact k4, ?_⟩
    · have := i4 a _ ((l2.trans k2).trans j2)
      unfold blB
      simp only [i2, Int.toNat_natCast]
      simpa [List.append_assoc] using this
    · unfold where_
      rw [Bool.and_eq_true, decide_eq_true_iff, decide_eq_true_iff]
      exact ⟨i3, by simp only [i2]; exact j3⟩
theorem fail_inv {bad : Bool} {e : Nat} {st : St} (he : e ≠ 0) (h : (fail bad e st).2 = 0) : st.2 = 0 ∧ bad = false ∧ fail bad e st = st := by
  unfold fail at h ⊢
  by_cases hb : bad = true ∧ st.2 = 0
  · rw [if_pos hb] at h
    exact absurd h he
  · rw [if_neg hb] at h ⊢
    refine ⟨h, ?_, rfl⟩
    cases bad
    · rfl
    · exact absurd ⟨rfl, h⟩ hb
theorem lt_z (k : ByteArray) (h : k.size = 0) (b : ByteArray) : Ord.lt b k = false := by
  have hk : k.data.toList = [] := by
    rw [← List.length_eq_zero_iff]
    rw [Array.length_toList]
    exact h
  unfold Ord.lt
  rw [Go.ByteArray.toList_eq k, hk]
  cases b.toList <;> rfl
theorem rdKey_inv {behind : ByteArray} {st : St} (h : (rdKey bs behind st).2.2 = 0) : st.2 = 0 ∧ Sg bs st.1 (vb (rdKey bs behind st).1.size ++ (rdKey bs behind st).1.data.toList) (rdKey bs behind st).2.1 ∧ (0 < (rdKey bs behind st).1.size ∧ (rdKey bs behind st).1.size ≤ 16) ∧ Ord.lt behind (rdKey bs behind st).1 = true := by
  unfold rdKey at h ⊢
  simp only at h ⊢
  obtain ⟨f1, f2, f3⟩ := fail_inv (by decide) h
  rw [f3]
  by_cases h0 : st.2 ≠ 0
  · rw [if_pos h0] at f1
    exact absurd f1 h0
  · rw [if_neg h0] at f1 f2 ⊢
    have hlt : Ord.lt behind ⟨(part bs st.1 16).1.toArray⟩ = true := by simpa using f2
    by_cases h1 : (part bs st.1 16).2.2 = 0
    · rw [if_pos h1]
      have hsz : (⟨(part bs st.1 16).1.toArray⟩ : ByteArray).size = (part bs st.1 16).1.length := by show (part bs st.1 16).1.toArray.size = _; simp
      have hpos : 0 < (part bs st.1 16).1.length := by
        rcases Nat.eq_zero_or_pos (part bs st.1 16).1.length with h2 | h2
        · rw [lt_z _ (by rw [hsz]; exact h2)] at hlt
          cases hlt
        · exact h2
      simp only
      rw [hsz]
      have hp : (part bs st.1 16).1.length ≤ 16 ∧ Sg bs st.1 (vb (part bs st.1 16).1.length ++ (part bs st.1 16).1) (part bs st.1 16).2.1 := by
        unfold part at h1 ⊢
        simp only at h1 ⊢
        by_cases c1 : (var bs st.1).2.2 ≠ 0
        · rw [if_pos c1] at h1
          exact absurd h1 c1
        · rw [if_neg c1] at h1 ⊢
          obtain ⟨a, P, e1, e2, e3, e4, e5, e6⟩ := var_inv (bs := bs) (at_ := st.1) (Classical.not_not.1 c1)
          by_cases c2 : (max (16 : Int) 0).toNat < (var bs st.1).1
          · rw [if_pos c2] at h1
            cases h1
          · rw [if_neg c2] at h1 ⊢
            by_cases c3 : bs.length - (var bs st.1).2.1.toNat < (var bs st.1).1
            · rw [if_pos c3] at h1
              cases h1
            · rw [if_neg c3]
              simp only
              rw [e2, Int.toNat_natCast] at c3 ⊢
              have hl : ((bs.drop P).take (var bs st.1).1).length = (var bs st.1).1 := by rw [List.length_take, List.length_drop]; omega
              rw [hl]
              refine ⟨by omega, ?_⟩
              refine Sg.trans (p := (P : Int)) ⟨a, P, e1, rfl, e3, e4, e5⟩ ⟨P, P + (var bs st.1).1, rfl, by simp, by omega, by omega, by rw [Nat.add_sub_cancel_left]⟩
      exact ⟨Classical.not_not.1 h0, hp.2, ⟨hpos, hp.1⟩, hlt⟩
    · rw [if_neg h1] at f1
      exact absurd f1 h1
theorem getP_inv {a : Int} (h : (Go.Proofs.Ytmabmhiombnngaa.getP bs a 1).2 = 0) : ∃ c : UInt8, (Go.Proofs.Ytmabmhiombnngaa.getP bs a 1).1 = c.toNat ∧ Sg bs a [c] (a + 1) := by
  unfold Go.Proofs.Ytmabmhiombnngaa.getP at h ⊢
  by_cases c1 : (1 : Int) < 1 ∨ (8 : Int) < 1 ∨ a < 0 ∨ (bs.length : Int) < a
  · rw [if_pos c1] at h
    cases h
  · rw [if_neg c1] at h ⊢
    by_cases c2 : (bs.length : Int) - a < 1
    · rw [if_pos c2] at h
      cases h
    · rw [if_neg c2]
      obtain ⟨A, rfl⟩ := Int.eq_ofNat_of_zero_le (show 0 ≤ a by omega)
      have hA : A < bs.length := by omega
      rw [Int.toNat_natCast, List.drop_eq_getElem_cons hA]
      refine ⟨bs[A], (show bs[A].toNat + 256 * 0 = _ by omega), ⟨A, A + 1, rfl, by simp, by omega, by omega, ?_⟩⟩
      rw [List.drop_eq_getElem_cons hA, Nat.add_sub_cancel_left]
      rfl
theorem rdFlag_inv {st : St} (h : (rdFlag bs st).2.2 = 0) : st.2 = 0 ∧ Sg bs st.1 [if (rdFlag bs st).1 then (1 : UInt8) else 0] (rdFlag bs st).2.1 := by
  unfold rdFlag at h ⊢
  simp only at h ⊢
  obtain ⟨f1, f2, f3⟩ := fail_inv (by decide) h
  rw [f3]
  by_cases h0 : st.2 ≠ 0
  · rw [if_pos h0] at f1
    exact absurd f1 h0
  · rw [if_neg h0] at f1 f2 ⊢
    by_cases h1 : (Go.Proofs.Ytmabmhiombnngaa.getP bs st.1 1).2 = 0
    · obtain ⟨c, e1, e2⟩ := getP_inv h1
      simp only [if_pos h1]
      have hc : ¬ 1 < (Go.Proofs.Ytmabmhiombnngaa.getP bs st.1 1).1 := by simpa using f2
      have : c = (if decide ((Go.Proofs.Ytmabmhiombnngaa.getP bs st.1 1).1 = 1) then (1 : UInt8) else 0) := by
        rw [e1] at hc ⊢
        by_cases hc1 : c.toNat = 1
        · rw [decide_eq_true hc1, if_pos rfl]
          exact UInt8.toNat_inj.1 hc1
        · rw [decide_eq_false hc1, if_neg (by decide)]
          exact UInt8.toNat_inj.1 (show c.toNat = 0 by omega)
      rw [← this]
      exact ⟨Classical.not_not.1 h0, e2⟩
    · rw [if_neg h1] at f1
      exact absurd f1 h1
theorem rdChg_inv {behind : ByteArray} {st : St} (h : (rdChg bs behind st).2.2 = 0) : st.2 = 0 ∧ Sg bs st.1 (chB (rdChg bs behind st).1) (rdChg bs behind st).2.1 ∧ fits (rdChg bs behind st).1 = true ∧ Ord.lt behind (rdChg bs behind st).1.key = true ∧ (rdChg bs behind st).1.blob.gen < 18446744073709551616 := by
  have hK := rdKey_inv (bs := bs) (behind := behind) (st := st)
  have hF := rdFlag_inv (bs := bs) (st := (rdKey bs behind st).2)
  have hB := rdBlob_inv (bs := bs) (a := (rdFlag bs (rdKey bs behind st).2).2.1)
  unfold rdChg at h ⊢
  simp only at h ⊢
  generalize rdKey bs behind st = K at *
  generalize rdFlag bs K.2 = F at *
  generalize rdBlob bs F.2.1 = X at *
  by_cases hd : F.1 = true
  · rw [if_pos hd] at h ⊢
    obtain ⟨i1, i2⟩ := hF h
    obtain ⟨j1, j2, j3, j4⟩ := hK i1
    rw [hd, if_pos rfl] at i2
    refine ⟨j1, ?_, ?_, j4, (by decide : (0 : Nat) < 18446744073709551616)⟩
    · unfold chB
      exact j2.trans i2
    · unfold fits
      simp only [j3.1, j3.2, decide_true, Bool.and_true]
      rfl
  · rw [if_neg hd] at h ⊢
    by_cases he : F.2.2 ≠ 0
    · rw [if_pos he] at h
      exact absurd h he
    · rw [if_neg he] at h ⊢
      by_cases hb : X.2.2 = 0
      · rw [if_pos hb]
        obtain ⟨i1, i2⟩ := hF (Classical.not_not.1 he)
        obtain ⟨j1, j2, j3, j4⟩ := hK i1
        obtain ⟨k1, k2, k3, k4⟩ := hB hb
        rw [if_neg hd] at i2
        refine ⟨j1, ?_, ?_, j4, k3⟩
        · unfold chB
          have := (j2.trans i2).trans k1
          rw [List.append_assoc] at this
          exact this
        · unfold fits
          simp only [j3.1, j3.2, k2.1, k2.2, k4, decide_true, Bool.and_true]
          rfl
      · rw [if_neg hb] at h
        exact absurd h hb
theorem rdChs_inv : ∀ (n : Nat) (key : ByteArray) (st : St), (rdChs bs n key st).2.2 = 0 → st.2 = 0 ∧ (rdChs bs n key st).1.length = n ∧ rightFrom key (rdChs bs n key st).1 = true ∧ (∀ c ∈ (rdChs bs n key st).1, c.blob.gen < 18446744073709551616) ∧ ∀ a x, Sg bs a x st.1 → Sg bs a (x ++ (rdChs bs n key st).1.flatMap chB) (rdChs bs n key st).2.1
  | 0, key, st, h => ⟨h, rfl, rfl, fun c hc => (by cases hc), fun a x hx => by simpa [rdChs] using hx⟩
  | n + 1, key, st, h => by
    rw [rdChs] at h ⊢
    by_cases h0 : st.2 ≠ 0
    · rw [if_pos h0] at h
      exact absurd h h0
    · rw [if_neg h0] at h ⊢
      obtain ⟨i1, i2, i3, i4, i5⟩ := rdChs_inv n _ _ h
      obtain ⟨j1, j2, j3, j4, j5⟩ := rdChg_inv i1
      refine ⟨j1, by simp only [List.length_cons, i2], by rw [rightFrom, j3, j4, i3]; rfl, fun c hc => ?_, fun a x hx => ?_⟩
      · rcases List.mem_cons.1 hc with rfl | hc
        · exact j5
        · exact i4 c hc
      · have := i5 a _ (hx.trans j2)
        simpa using this
end
theorem getR_ok {bs : List UInt8} (h : (getR bs).2 = 0) : right (getR bs).1 = true ∧ recB (getR bs).1 = bs ∧ (getR bs).1.stamp < 18446744073709551616 ∧ ∀ c ∈ (getR bs).1.chs, c.blob.gen < 18446744073709551616 := by
  unfold getR at h ⊢
  simp only at h ⊢
  generalize hs : rdNum bs (0, 0) = s at *
  generalize hn : rdNum bs s.2 = n at *
  generalize hl : rdChs bs n.1 Ord.z (fail (decide (16 < n.1)) 3 n.2) = l at *
  by_cases he : (fail (decide (l.2.1 ≠ (bs.length : Int))) 3 l.2).2 ≠ 0
  · rw [if_pos he] at h
    exact absurd h he
  · rw [if_neg he]
    obtain ⟨f1, f2, f3⟩ := fail_inv (by decide) (Classical.not_not.1 he)
    obtain ⟨i1, i2, i3, i4, i5⟩ := rdChs_inv (bs := bs) n.1 Ord.z (fail (decide (16 < n.1)) 3 n.2) (by rw [hl]; exact f1)
    obtain ⟨g1, g2, g3⟩ := fail_inv (by decide) i1
    rw [hl] at i2 i3 i4 i5
    obtain ⟨j1, j2, j3⟩ := rdNum_inv (bs := bs) (st := s.2) (by rw [hn]; exact g1)
    rw [hn] at j2 j3
    obtain ⟨k1, k2, k3⟩ := rdNum_inv (bs := bs) (st := (0, 0)) (by rw [hs]; exact j1)
    rw [hs] at k2 k3
    rw [g3] at i5
    have hS := i5 0 _ (k2.trans j2)
    have hend : l.2.1 = (bs.length : Int) := by simpa using f2
    refine ⟨?_, ?_, k3, i4⟩
    · unfold right
      have : n.1 ≤ 16 := by simpa using g2
      simp only [i3, i2, this, decide_true, Bool.and_true]
    · unfold recB
      simp only [i2]
      obtain ⟨A, P, e1, e2, e3, e4, e5⟩ := hS
      obtain rfl : A = 0 := by omega
      obtain rfl : P = bs.length := by omega
      rw [List.drop_zero, Nat.sub_zero, List.take_length] at e5
      rw [e5, List.append_assoc]
end Frm
