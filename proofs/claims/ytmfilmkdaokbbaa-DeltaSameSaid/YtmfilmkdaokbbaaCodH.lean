/- The document's All, Split, Join; what is few; sums of two rows. -/
import Derived.Test.YtmfilmkdaokbbaaCodG
set_option linter.unusedVariables false
set_option linter.unusedSimpArgs false
set_option maxRecDepth 40000
namespace Cib
open Go Go.RowKit Go.Proofs
theorem Cod.shards_next (k : Nat) (D : List (List UInt8)) (p : Nat) : Cod.shards k D (p + 1) = Cod.shards k D p ++ [Cod.shard k D p] := by simp [Cod.shards, List.range_succ]
/-- Rows that are made one behind the other. -/
structure MadeI (w : World) (D : List (List UInt8)) (A : Option Addr) (c : Nat) (L : List RowB) (wr : World) : Prop where
  bs : L.map (·.bs) = D
  own : wr.ownsRow w.heap.size 22 1 (.slice A D.length c) D.length (L.map RowB.v)
  rows : RowsNew wr w.heap.size L
  below : Below w.heap.size w wr
theorem MadeI.len {w wr : World} {c : Nat} {D : List (List UInt8)} {A : Option Addr} {L : List RowB} (h : MadeI w D A c L wr) : L.length = D.length := by
  have := congrArg List.length h.bs
  rwa [List.length_map] at this
theorem MadeI.nil (w wr : World) (c : Nat) (hb : Below w.heap.size w wr) : MadeI w [] none 0 [] wr := ⟨rfl, World.ownsRow_nil _ _ _ _, RowsNew.nil, hb⟩
theorem MadeI.keep {w wr w2 : World} {c : Nat} {D : List (List UInt8)} {A : Option Addr} {L : List RowB} (h : MadeI w D A c L wr) (hb : Below wr.heap.size wr w2) : MadeI w D A c L w2 := ⟨h.bs, own_via h.own hb, h.rows.below hb, h.below.via hb⟩
theorem MadeI.push {w wr w2 w3 : World} {c : Nat} {D : List (List UInt8)} {A A3 : Option Addr} {c3 : Nat} {L : List RowB} (h : MadeI w D A c L wr) {r : RowB} {x : List UInt8} (hr : r.bs = x) (hb : Below wr.heap.size wr w2)
    (ho : w2.ownsRow wr.heap.size 5 1 (.slice r.A r.n r.c) r.n (r.bs.map bv))
    (ho3 : w3.ownsRow w.heap.size 22 1 (.slice A3 (D.length + 1) c3) (D.length + 1) (L.map RowB.v ++ [r.v])) (hg : (w2.alloc (.cells #[r.v] 22)).grownBy w3 (Value.slice A D.length c).ownBlock) (hb3 : Below w.heap.size (w2.alloc (.cells #[r.v] 22)) w3) :
    MadeI w (D ++ [x]) A3 c3 (L ++ [r]) w3 where
  bs := by rw [List.map_append, h.bs, ← hr]; rfl
  own := by rw [List.map_append, List.length_append]; exact ho3
  rows := ((h.rows.push hb h.below.size ho).below ((Below.refl _ _).alloc (Nat.le_refl _) _)).grown hg ((own_via h.own hb).alloc _) rowNe
  below := ((h.below.via hb).alloc (h.below.via hb).size _).trans hb3
theorem below_of_drew {B : Nat} {w w' : World} (h : Below B w w') : Below B w.drew w' := ⟨h.os, h.tape, h.output, h.size, h.block⟩
/-- The sum of two rows, as far as both go. -/
def addB (a b : List UInt8) : List UInt8 := List.zipWith (fun x y => UInt8.ofNat (x.toNat ^^^ y.toNat)) a b
theorem addB_length (a b : List UInt8) : (addB a b).length = min a.length b.length := by simp [addB]
theorem addB_take (a b : List UInt8) {q : Nat} (h1 : q < a.length) (h2 : q < b.length) : (addB a b).take (q + 1) = (addB a b).take q ++ [UInt8.ofNat (a[q].toNat ^^^ b[q].toNat)] := by
  rw [List.take_succ_eq_append_getElem (by rw [addB_length]; omega)]
  simp [addB]
/-- What is left of 3000 bytes behind some rows. -/
def leftTo (l : List Nat) : Nat → Int
  | 0 => 3000
  | p + 1 => leftTo l p - (min (l.getD p 0) 4000 : Nat)
/-- Few rows, and short ones? -/
def fewB (l : List Nat) : Bool := decide (l.length ≤ 260) && decide (0 ≤ leftTo l l.length)
theorem leftTo_le (l : List Nat) : ∀ p, leftTo l p ≤ 3000 ∧ -4000 * (p : Int) ≤ leftTo l p
  | 0 => by simp [leftTo]
  | p + 1 => by
    have := leftTo_le l p
    simp only [leftTo]
    omega
theorem leftTo_all (l : List Nat) : ∀ p, 0 ≤ leftTo l p → ∀ j, j < p → l.getD j 0 ≤ 3000
  | 0, _, j, hj => by omega
  | p + 1, h, j, hj => by
    have h1 := (leftTo_le l p).1
    simp only [leftTo] at h
    by_cases hjp : j = p
    · subst hjp
      omega
    · exact leftTo_all l p (by omega) j (by omega)
theorem fewB_true {l : List Nat} (h : fewB l = true) : l.length ≤ 260 ∧ ∀ x ∈ l, x ≤ 3000 := by
  simp only [fewB, Bool.and_eq_true, decide_eq_true_eq] at h
  refine ⟨h.1, fun x hx => ?_⟩
  obtain ⟨j, hj, rfl⟩ := List.mem_iff_getElem.1 hx
  have := leftTo_all l _ h.2 j hj
  simpa [List.getD, hj] using this
/-- The rows' lengths. -/
def lns (L : List RowB) : List Nat := L.map (·.n)
set_option maxHeartbeats 800000 in
theorem lawFew5 (v : Value) (L : List RowB) (B : Nat) (A : Option Addr) (n k : Nat) (w : World) (hr : Rd w B A (L.map RowB.v)) (hn : L.length = n) (hn2 : n ≤ maxLen) (hm : ∀ r ∈ L, r.n ≤ maxLen) :
    Calls Try.prog 10 #[v, .slice A n k] w fun e w' => e = .returned (.bool (fewB (lns L))) ∧ w' = w := by
  unfold maxLen at hn2 hm
  have HR := Lib.hid hr
  have HN := Lib.hid hn
  have HM := Lib.hid hm
  have HLL : Hid ((lns L).length = n) := (show _ = _ by simp [lns, hn])
  obtain ⟨F, hF⟩ : ∃ F, Hid (fewB (lns L) = F) := ⟨_, rfl⟩
  rw [hF.out]
  clear hr hn hm
  go_enter Try.func10, Try.ntmps10
  go_wp2
  go_loopw [5, 6] (fun l i wr => ∃ (p : Nat) (x : Int), i = .int .i64 p ∧ p ≤ n ∧ p ≤ 300 ∧ l = .int .i64 x ∧ x ≤ 3000 ∧ -4000 * (p : Int) ≤ x ∧ wr = w ∧ Hid (x = leftTo (lns L) p)) (fun _ i _ => n - (intOf i).toNat)
  case atStart => exact ⟨0, 3000, rfl, Nat.zero_le _, by omega, rfl, by omega, by omega, rfl, rfl⟩
  case round =>
    obtain ⟨p, x, rfl, hp, hp3, rfl, hx1, hx2, rfl, HI⟩ := hrel
    by_cases hlt : p < n
    · by_cases h300 : p < 300
      · have hpl : p < L.length := by rw [HN.out]; exact hlt
        obtain ⟨ad, rfl, hab, hcell⟩ := HR.out.row hpl
        have hmq := HM.out _ (List.getElem_mem hpl)
        have HNX : Hid (leftTo (lns L) (p + 1) = x - (min L[p].n 4000 : Nat)) := by
          show _ = _
          rw [leftTo, ← HI.out]
          simp [lns, List.getD, hpl]
        generalize L[p] = r at *
        by_cases h4 : 4000 < r.n
        · have HNY : Hid (x - 4000 = leftTo (lns L) (p + 1)) := (show _ = _ by rw [HNX.out]; omega)
          clear HNX HI
          go_wp2
          go_roundw
          case rel => exact ⟨p + 1, x - 4000, by go_num, hlt, h300, rfl, by omega, by omega, by first | rfl | trivial, HNY⟩
          case measure => simp [intOf]; omega
        · have HNY : Hid (x - (r.n : Int) = leftTo (lns L) (p + 1)) := (show _ = _ by rw [HNX.out]; omega)
          clear HNX HI
          go_wp2
          go_roundw
          case rel => exact ⟨p + 1, x - (r.n : Int), by go_num, hlt, h300, rfl, by omega, by omega, by first | rfl | trivial, HNY⟩
          case measure => simp [intOf]; omega
      · have hb : decide ((p : Int) < 300) = false := by simp; omega
        have hn3 : ¬ n ≤ 260 := by omega
        obtain rfl : false = F := by rw [← hF.out]; simp [fewB, HLL.out, hn3]
        go_wp2
        go_ret
        exact ⟨rfl, rfl⟩
    · obtain rfl : p = n := by omega
      by_cases hn260 : p ≤ 260
      · by_cases h0 : 0 ≤ x
        · obtain rfl : true = F := by rw [← hF.out]; simp [fewB, HLL.out, hn260, ← HI.out, h0]
          go_wp2
          go_ret
          exact ⟨rfl, rfl⟩
        · obtain rfl : false = F := by rw [← hF.out]; simp [fewB, HLL.out, ← HI.out]; omega
          have h0' : decide (0 ≤ x) = false := by simp; omega
          go_wp2
          go_ret
          exact ⟨rfl, rfl⟩
      · obtain rfl : false = F := by rw [← hF.out]; simp [fewB, HLL.out, hn260]
        go_wp2
        go_ret
        exact ⟨rfl, rfl⟩
end Cib
