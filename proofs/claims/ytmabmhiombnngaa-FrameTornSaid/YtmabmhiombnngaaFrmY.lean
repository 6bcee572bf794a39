/- Texts' pieces, one behind the other: plain, and as rows under way. -/
import Derived.Test.YtmabmhiombnngaaFrmP
import Derived.Test.YtmabmhiombnngaaSto
set_option linter.unusedVariables false
set_option linter.unusedSimpArgs false
set_option maxRecDepth 20000
namespace Frm
theorem flat_cons (room : Nat) (T : List UInt8) (Ts : List (List UInt8)) : flatC room (T :: Ts) = cutF room 1 0#32 T ++ flatC room Ts := by simp [flatC]
theorem flat_snoc (room : Nat) (Ts : List (List UInt8)) {i : Nat} (h : i < Ts.length) : flatC room (Ts.take (i + 1)) = flatC room (Ts.take i) ++ cutF room 1 0#32 Ts[i] := by
  unfold flatC
  rw [List.take_succ_eq_append_getElem h, List.flatMap_append, List.flatMap_cons, List.flatMap_nil, List.append_nil]
/-- Where a text's pieces end. -/
def endC (room : Nat) (Ts : List (List UInt8)) (j : Nat) : Nat := (flatC room (Ts.take (j + 1))).length
def endsL (room : Nat) (Ts : List (List UInt8)) (p : Nat) : List Int := (List.range p).map fun j => (endC room Ts j : Int)
theorem endsL_length (room : Nat) (Ts : List (List UInt8)) (p : Nat) : (endsL room Ts p).length = p := by simp [endsL]
theorem endsL_get (room : Nat) (Ts : List (List UInt8)) {p j : Nat} (h : j < (endsL room Ts p).length) : (endsL room Ts p)[j] = (endC room Ts j : Int) := by simp [endsL]
theorem endsL_succ (room : Nat) (Ts : List (List UInt8)) (p : Nat) : endsL room Ts (p + 1) = endsL room Ts p ++ [(endC room Ts p : Int)] := by simp [endsL, List.range_succ]
theorem whole_step (room : Nat) : ∀ (Ts : List (List UInt8)) (i k : Nat), i < Ts.length → whole room (Ts.take (i + 1)) k = if endC room Ts i ≤ k then (i + 1, endC room Ts i) else whole room (Ts.take i) k
  | [], i, k, h => by cases h
  | T :: Ts, 0, k, h => by
    have e : endC room (T :: Ts) 0 = (cutF room 1 0#32 T).length := by simp [endC, flatC]
    rw [e]
    show whole room [T] k = _
    rw [whole]
    split
    · rfl
    · rfl
  | T :: Ts, i + 1, k, h => by
    have ih := whole_step room Ts i (k - (cutF room 1 0#32 T).length) (by simpa using h)
    have e : endC room (T :: Ts) (i + 1) = (cutF room 1 0#32 T).length + endC room Ts i := by
      unfold endC
      rw [List.take_succ_cons, flat_cons, List.length_append]
    rw [e, List.take_succ_cons, List.take_succ_cons, whole, whole, ih]
    by_cases h1 : (cutF room 1 0#32 T).length ≤ k
    · rw [if_pos h1, if_pos h1]
      by_cases h2 : endC room Ts i ≤ k - (cutF room 1 0#32 T).length
      · rw [if_pos h2, if_pos (by omega)]
      · rw [if_neg h2, if_neg (by omega)]
    · rw [if_neg h1, if_neg h1, if_neg (by omega)]
theorem whole_n (room : Nat) : ∀ (Ts : List (List UInt8)) (k : Nat), (whole room Ts k).1 ≤ Ts.length
  | [], k => by simp [whole]
  | T :: Ts, k => by
    rw [whole]
    split
    · have := whole_n room Ts (k - (cutF room 1 0#32 T).length)
      simp only [List.length_cons]
      omega
    · simp
theorem cutF_len' (room : Nat) (h8 : 8 ≤ room) : ∀ (n : Nat) (b : List UInt8), b.length ≤ n → ∀ (mark : Nat) (s : BitVec 32), (cutF room mark s b).length ≤ b.length + 1
  | n, b, hn, mark, s => by
    by_cases h : 7 < room ∧ room - 7 < b.length
    · rw [cutF_more h, List.length_cons]
      match n, hn with
      | 0, hn => exact absurd hn (by omega)
      | n + 1, hn =>
        have := cutF_len' room h8 n (b.drop (room - 7)) (by rw [List.length_drop]; omega) 0 (sum s mark (b.take (room - 7)))
        rw [List.length_drop] at this
        omega
    · rw [cutF_last h]
      simp
end Frm
namespace Frm
theorem flat_fits (room : Nat) (h8 : 8 ≤ room) (Ts : List (List UInt8)) : ∀ x ∈ flatC room Ts, x.length ≤ room := by
  intro x hx
  unfold flatC at hx
  obtain ⟨T, _, hx⟩ := List.mem_flatMap.1 hx
  obtain ⟨k, hk, rfl⟩ := List.getElem_of_mem hx
  exact (cut_fits room h8 T.length T (Nat.le_refl _) 1 0#32 k hk).1
end Frm
namespace Cib
open Go Go.RowKit Go.Proofs
theorem infoInt5 : (Try.prog.info? 3).map (fun i => (i.zero, i.size, i.bytes)) = some (some (.int .i64 0), 1, 8) := by kernel_rfl
theorem intNe : 3 ≠ 26 ∧ 3 ≠ 5 := by decide
/-- append to a slice of numbers of the call's own. -/
theorem appI {ops : Array Oper} {rest : List Oper} {o : Oper} {a : Act} {Q : Exit → Act → World → Prop} (w : World) (hgd : o.guard = none) (s x : Operand)
    (ho : o.op = .call { callee := .builtin .append, args := #[s, x], argTypes := #[49, 49] })
    (base : Nat) (A0 : Option Addr) (n0 c0 : Nat) (xs : List Value) (hs : a.eval s = .slice A0 n0 c0) (hown : w.ownsRow base 3 1 (.slice A0 n0 c0) n0 xs)
    (B : Nat) (A : Option Addr) (m c : Nat) (news : List Value) (hx : a.eval x = .slice A m c) (hm : news.length = m) (hr : Rd w B A news) (h1 : ∀ u ∈ news, u.oneCell' = true)
    (hbytes : n0 + m ≤ 1000000000) (hbase : base ≤ w.heap.size)
    (h : ∀ A' c' w', w'.ownsRow base 3 1 (.slice A' (n0 + m) c') (n0 + m) (xs ++ news) → w.grownBy w' (Value.slice A0 n0 c0).ownBlock → Below base w w' → wpList Try.prog ops Q rest (a.put o.dst (.slice A' (n0 + m) c')) w') :
    wpList Try.prog ops Q (o :: rest) a w := by
  obtain ⟨i0, hi, hz0, hz1, hz2⟩ := info_parts infoInt5
  exact wpList_app w hgd s x 49 ho base 3 i0 _ 8 Try.underlying49 hi hz0 hz1 hz2 rfl A0 n0 c0 xs hs hown B A m c news hx hm hr h1 (by unfold maxLen; omega) (by omega) hbase h
/-- All pieces of the first p texts, and where each text's end. -/
structure TornI (w : World) (R : Nat) (Ts : List (List UInt8)) (p : Nat) (Aa : Option Addr) (na ca : Nat) (Ae : Option Addr) (ce : Nat) (M : List RowB) (wr : World) : Prop where
  sts : Sts w Aa na ca M wr
  bs : M.map (·.bs) = Frm.flatC R (Ts.take p)
  len : M.length = na
  ends : wr.ownsRow w.heap.size 3 1 (.slice Ae p ce) p ((Frm.endsL R Ts p).map (Value.int .i64))
theorem TornI.nil (w : World) (R : Nat) (Ts : List (List UInt8)) : TornI w R Ts 0 none 0 0 none 0 [] w :=
  ⟨⟨World.ownsRow_nil _ _ _ _, RowsNew.nil, Below.refl _ _⟩, by simp [Frm.flatC], rfl, World.ownsRow_nil _ _ _ _⟩
theorem TornI.via {w wr w' : World} {R : Nat} {Ts : List (List UInt8)} {p : Nat} {Aa Ae : Option Addr} {na ca ce : Nat} {M : List RowB} (h : TornI w R Ts p Aa na ca Ae ce M wr) (hb : Below wr.heap.size wr w') : TornI w R Ts p Aa na ca Ae ce M w' :=
  ⟨h.sts.via hb, h.bs, h.len, own_via h.ends hb⟩
theorem TornI.step {w wr w1 w2 w3 : World} {R : Nat} {Ts : List (List UInt8)} {p : Nat} {Aa A2 Ae A3 : Option Addr} {na ca c2 ce c3 n1 nb : Nat} {M L1 : List RowB} (h : TornI w R Ts p Aa na ca Ae ce M wr) (hp : p < Ts.length) (hnb : na + n1 = nb)
    (hL : L1.map (·.bs) = Frm.cutF R 1 0#32 Ts[p]) (hn1 : L1.length = n1) (hr1 : RowsNew w1 wr.heap.size L1) (hb1 : Below wr.heap.size wr w1)
    (ho2 : w2.ownsRow w.heap.size 26 1 (.slice A2 nb c2) nb (M.map RowB.v ++ L1.map RowB.v)) (hg2 : w1.grownBy w2 (Value.slice Aa na ca).ownBlock) (hb2 : Below w.heap.size w1 w2)
    (ho3 : w3.ownsRow w.heap.size 3 1 (.slice A3 (p + 1) c3) (p + 1) ((Frm.endsL R Ts p).map (Value.int .i64) ++ [.int .i64 (nb : Int)])) (hg3 : (w2.alloc (.cells #[.int .i64 (nb : Int)] 3)).grownBy w3 (Value.slice Ae p ce).ownBlock) (hb3 : Below w.heap.size (w2.alloc (.cells #[.int .i64 (nb : Int)] 3)) w3) :
    TornI w R Ts (p + 1) A2 nb c2 A3 c3 (M ++ L1) w3 := by
  subst hnb
  have hsz : w.heap.size ≤ w2.heap.size := Nat.le_trans (Nat.le_trans h.sts.below.size hb1.size) hb2.size
  have ha : Below w2.heap.size w2 (w2.alloc (.cells #[.int .i64 ((na + n1 : Nat) : Int)] 3)) := (Below.refl _ _).alloc (Nat.le_refl _) _
  have hoe1 := own_via h.ends hb1
  have hol1 := own_via h.sts.own hb1
  have hs12 : Same [26] w1 w2 := Same.grown hol1 hg2 (by simp)
  have hoe2 := own_via (own_same hoe1 hs12 (by decide)) ha
  have hs3 : Same [3] (w2.alloc (.cells #[.int .i64 ((na + n1 : Nat) : Int)] 3)) w3 := Same.grown hoe2 hg3 (by simp)
  have hend : Frm.endC R Ts p = na + n1 := by
    unfold Frm.endC
    rw [Frm.flat_snoc R Ts hp, List.length_append, ← h.bs, ← hL, List.length_map, List.length_map, h.len, hn1]
  refine ⟨⟨?_, ?_, ?_⟩, ?_, ?_, ?_⟩
  · rw [List.map_append]
    exact own_same (own_via ho2 ha) hs3 (by decide)
  · exact (((((h.sts.rows.below hb1).append hr1 h.sts.below.size h.sts.rows.lt).grown hg2 hol1 rowNe).below ha).grown hg3 hoe2 intNe.2)
  · exact (((h.sts.below.via hb1).trans hb2).alloc hsz _).trans hb3
  · rw [List.map_append, h.bs, hL, Frm.flat_snoc R Ts hp]
  · rw [List.length_append, h.len, hn1]
  · rw [Frm.endsL_succ, List.map_append, hend]
    exact ho3
end Cib
