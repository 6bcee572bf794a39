/- Rows of bytes ([][]byte): each row's slice, and the bytes that it reads as. -/
import Derived.Test.YtmabmhiombnngaaReg
set_option linter.unusedVariables false
set_option linter.unusedSimpArgs false
set_option maxRecDepth 20000
namespace Cib
open Go Go.RowKit Go.Proofs

/-- A row: where its slice begins, its length and room, and its bytes. -/
structure RowB where
  A : Option Addr
  n : Nat
  c : Nat
  bs : List UInt8
def RowB.v (r : RowB) : Value := .slice r.A r.n r.c
/-- The row reads so. -/
structure RowB.At (w : World) (B : Nat) (r : RowB) : Prop where
  rd : Rd w B r.A (r.bs.map bv)
  len : r.bs.length = r.n
  cap : r.n ≤ r.c
  max : r.c ≤ maxLen
def RowsAt (w : World) (B : Nat) (L : List RowB) : Prop := ∀ r ∈ L, r.At w B
section
variable {w w' : World} {B B' : Nat} {r : RowB} {L L' : List RowB}
theorem RowB.At.below (h : r.At w B) (hb : Below B w w') : r.At w' B := ⟨h.rd.below hb, h.len, h.cap, h.max⟩
theorem RowB.At.more (h : r.At w B) (hB : B ≤ B') : r.At w B' := ⟨h.rd.more hB, h.len, h.cap, h.max⟩
theorem RowB.At.drewN (h : r.At w B) (n : Nat) : r.At (w.drewN n) B := ⟨h.rd.drewN n, h.len, h.cap, h.max⟩
theorem RowsAt.below (h : RowsAt w B L) (hb : Below B w w') : RowsAt w' B L := fun r hr => (h r hr).below hb
theorem RowsAt.more (h : RowsAt w B L) (hB : B ≤ B') : RowsAt w B' L := fun r hr => (h r hr).more hB
theorem RowsAt.nil : RowsAt w B [] := fun r hr => by cases hr
theorem RowsAt.append (h : RowsAt w B L) (h' : RowsAt w B L') : RowsAt w B (L ++ L') := fun r hr => by
  rcases List.mem_append.1 hr with h1 | h1
  · exact h r h1
  · exact h' r h1
theorem RowsAt.cons (h : r.At w B) (h' : RowsAt w B L) : RowsAt w B (r :: L) := fun x hx => by
  rcases List.mem_cons.1 hx with rfl | h1
  · exact h
  · exact h' x h1
theorem RowsAt.get (h : RowsAt w B L) {k : Nat} (hk : k < L.length) : L[k].At w B := h _ (List.getElem_mem hk)
theorem RowB.of_own {base : Nat} {A : Option Addr} {n c : Nat} {bs : List UInt8} (ho : w.ownsRow base 5 1 (.slice A n c) n (bs.map bv)) (hn : bs.length = n) : RowB.At w w.heap.size ⟨A, n, c, bs⟩ :=
  ⟨Rd.of_own ho, hn, (own_cap ho).1, (own_cap ho).2⟩
end
theorem one_rows {L : List RowB} : ∀ u ∈ L.map RowB.v, u.oneCell' = true := by
  intro u hu
  obtain ⟨r, _, rfl⟩ := List.mem_map.1 hu
  rfl
theorem infoRow : (Try.prog.info? 26).map (fun i => (i.zero, i.size, i.bytes)) = some (some (.slice none 0 0), 1, 24) := by kernel_rfl
theorem sizeRow : (Try.prog.info? 26).map (·.size) = some 1 := by kernel_rfl
/-- append to a slice of rows of the call's own. -/
theorem appR {ops : Array Oper} {rest : List Oper} {o : Oper} {a : Act} {Q : Exit → Act → World → Prop} (w : World) (hgd : o.guard = none) (s x : Operand)
    (ho : o.op = .call { callee := .builtin .append, args := #[s, x], argTypes := #[33, 33] })
    (base : Nat) (A0 : Option Addr) (n0 c0 : Nat) (xs : List Value) (hs : a.eval s = .slice A0 n0 c0) (hown : w.ownsRow base 26 1 (.slice A0 n0 c0) n0 xs)
    (B : Nat) (A : Option Addr) (m c : Nat) (news : List Value) (hx : a.eval x = .slice A m c) (hm : news.length = m) (hr : Rd w B A news) (h1 : ∀ u ∈ news, u.oneCell' = true)
    (hbytes : n0 + m ≤ 1000000000) (hbase : base ≤ w.heap.size)
    (h : ∀ A' c' w', w'.ownsRow base 26 1 (.slice A' (n0 + m) c') (n0 + m) (xs ++ news) → w.grownBy w' (Value.slice A0 n0 c0).ownBlock → Below base w w' → wpList Try.prog ops Q rest (a.put o.dst (.slice A' (n0 + m) c')) w') :
    wpList Try.prog ops Q (o :: rest) a w := by
  obtain ⟨i0, hi, hz0, hz1, hz2⟩ := info_parts infoRow
  exact wpList_app w hgd s x 33 ho base 26 i0 _ 24 Try.underlying33 hi hz0 hz1 hz2 rfl A0 n0 c0 xs hs hown B A m c news hx hm hr h1 (by unfold maxLen; omega) (by omega) hbase h
/-- The cell of row k. -/
theorem Rd.row {w : World} {B : Nat} {A : Option Addr} {L : List RowB} (h : Rd w B A (L.map RowB.v)) {k : Nat} (hk : k < L.length) :
    ∃ ad, A = some ad ∧ ad.block < B ∧ w.cell? (ad.add k) = some (.slice L[k].A L[k].n L[k].c) := by
  obtain ⟨ad, e, hb, hc⟩ := h (by intro e; simp at e; subst e; simp at hk)
  have := hc k (by simpa using hk)
  rw [List.getElem_map] at this
  exact ⟨ad, e, hb, this⟩
theorem own_new (w : World) {base : Nat} (e : TypeId) (cs : Array Value) {n : Nat} (hb : base ≤ w.heap.size) (hn : cs.size = n) (hm : n ≤ maxLen) {vs : List Value} (hv : cs.toList = vs) :
    (w.alloc (.cells cs e)).ownsRow base e 1 (.slice (some ⟨w.heap.size, 0, none⟩) n n) n vs := by
  subst hv hn
  exact ⟨by simp, .inr ⟨w.heap.size, cs.size, cs, rfl, hb, heap_alloc_new w _, Nat.le_refl _, hm, by simp, by rw [Nat.mul_one]; exact List.take_of_length_le (by simp)⟩⟩
theorem own_via {w w' : World} {base : Nat} {e : TypeId} {v : Value} {n : Nat} {xs : List Value} (h : w.ownsRow base e 1 v n xs) (hb : Below w.heap.size w w') : w'.ownsRow base e 1 v n xs := by
  refine ⟨h.1, ?_⟩
  rcases h.2 with h0 | ⟨g, cap, cur, rfl, h1, h2, h3⟩
  · exact .inl h0
  · have hg : g < w.heap.size := Blk.lt (t := e) (cs := cur) h2
    exact .inr ⟨g, cap, cur, rfl, h1, (hb.block g hg).trans h2, h3⟩
/-- The row reads so; it came in (its block lies below base), or is a block of bytes: in either case apart from what holds the rows' slices. -/
structure RowB.Ok (w : World) (base : Nat) (r : RowB) : Prop where
  rd : Rd w w.heap.size r.A (r.bs.map bv)
  len : r.bs.length = r.n
  cap : r.n ≤ r.c
  max : r.c ≤ maxLen
  home : ∀ ad, r.A = some ad → r.bs ≠ [] → ad.block < base ∨ ∃ cs, w.heap[ad.block]? = some (.cells cs 5 (0, 0))
def RowsOk (w : World) (base : Nat) (L : List RowB) : Prop := ∀ r ∈ L, r.Ok w base
section
variable {w w' : World} {base : Nat} {r : RowB} {L L' : List RowB}
theorem RowB.Ok.lt (h : r.Ok w base) {ad : Addr} (e : r.A = some ad) (hn : r.bs ≠ []) : ad.block < w.heap.size := by
  obtain ⟨ad', e', hb, _⟩ := h.rd (by intro x; exact hn (List.map_eq_nil_iff.1 x))
  rw [e] at e'
  injection e' with e'
  rw [e']
  exact hb
theorem RowB.Ok.below (h : r.Ok w base) (hb : Below w.heap.size w w') : r.Ok w' base :=
  ⟨(h.rd.below hb).more hb.size, h.len, h.cap, h.max, fun ad e hn => by
    rcases h.home ad e hn with h1 | ⟨cs, h1⟩
    · exact .inl h1
    · exact .inr ⟨cs, (hb.block _ (h.lt e hn)).trans h1⟩⟩
theorem RowB.Ok.drewN (h : r.Ok w base) (n : Nat) : r.Ok (w.drewN n) base := ⟨h.rd.drewN n, h.len, h.cap, h.max, h.home⟩
theorem RowB.Ok.grown {t : TypeId} {v : Value} {n : Nat} {xs : List Value} (h : r.Ok w base) (hg : w.grownBy w' v.ownBlock) (ho : w.ownsRow base t 1 v n xs) (ht : t ≠ 5) : r.Ok w' base := by
  have hne : ∀ ad, r.A = some ad → r.bs ≠ [] → v.ownBlock ≠ some ad.block := fun ad e hn he => by
    rcases h.home ad e hn with h1 | ⟨cs, h1⟩
    · have := (ho.lt _ he).1
      omega
    · rcases ho.2 with ⟨rfl, _⟩ | ⟨g, cap, cur, rfl, _, h2, _⟩
      · simp [Value.ownBlock] at he
      · simp [Value.ownBlock] at he
        subst he
        rw [h2] at h1
        injection h1 with h1
        injection h1 with _ h3
        exact ht h3
  have hk : ∀ ad, r.A = some ad → r.bs ≠ [] → w'.heap[ad.block]? = w.heap[ad.block]? := fun ad e hn => hg.block _ (h.lt e hn) (fun x => hne ad e hn x.symm)
  refine ⟨fun hn => ?_, h.len, h.cap, h.max, fun ad e hn => ?_⟩
  · have hn' : r.bs ≠ [] := fun x => hn (by rw [x]; rfl)
    obtain ⟨ad, e, hb, hc⟩ := h.rd hn
    refine ⟨ad, e, Nat.lt_of_lt_of_le hb hg.size, fun j hj => ?_⟩
    rw [← hc j hj]
    exact World.cell?_of_block (by rw [addr_add_block]; exact hk ad e hn')
  · rcases h.home ad e hn with h1 | ⟨cs, h1⟩
    · exact .inl h1
    · exact .inr ⟨cs, (hk ad e hn).trans h1⟩
theorem RowB.Ok.of_own {b : Nat} {A : Option Addr} {n c : Nat} {bs : List UInt8} (ho : w.ownsRow b 5 1 (.slice A n c) n (bs.map bv)) (hn : bs.length = n) : RowB.Ok w base ⟨A, n, c, bs⟩ :=
  ⟨Rd.of_own ho, hn, (own_cap ho).1, (own_cap ho).2, fun ad e hne => by
    rcases ho.2 with ⟨hv, h0⟩ | ⟨g, cap, cur, hv, _, h2, _⟩
    · simp only at hne
      exact absurd (List.eq_nil_of_length_eq_zero (by omega)) hne
    · injection hv with e1
      simp only at e
      rw [e] at e1
      injection e1 with e1
      rw [e1]
      exact .inr ⟨cur, h2⟩⟩
theorem RowB.At.ok (h : r.At w base) (hb : base ≤ w.heap.size) : r.Ok w base :=
  ⟨h.rd.more hb, h.len, h.cap, h.max, fun ad e hn => .inl (by
    obtain ⟨ad', e', hb', _⟩ := h.rd (by intro x; exact hn (List.map_eq_nil_iff.1 x))
    rw [e] at e'
    injection e' with e'
    rw [e']
    exact hb')⟩
theorem RowsOk.below (h : RowsOk w base L) (hb : Below w.heap.size w w') : RowsOk w' base L := fun r hr => (h r hr).below hb
theorem RowsOk.drewN (h : RowsOk w base L) (n : Nat) : RowsOk (w.drewN n) base L := fun r hr => (h r hr).drewN n
theorem RowsOk.grown {t : TypeId} {v : Value} {n : Nat} {xs : List Value} (h : RowsOk w base L) (hg : w.grownBy w' v.ownBlock) (ho : w.ownsRow base t 1 v n xs) (ht : t ≠ 5) : RowsOk w' base L :=
  fun r hr => (h r hr).grown hg ho ht
theorem RowsOk.nil : RowsOk w base [] := fun r hr => by cases hr
theorem RowsOk.append (h : RowsOk w base L) (h' : RowsOk w base L') : RowsOk w base (L ++ L') := fun r hr => by
  rcases List.mem_append.1 hr with h1 | h1
  · exact h r h1
  · exact h' r h1
theorem RowsOk.cons (h : r.Ok w base) (h' : RowsOk w base L) : RowsOk w base (r :: L) := fun x hx => by
  rcases List.mem_cons.1 hx with rfl | h1
  · exact h
  · exact h' x h1
theorem RowsOk.get (h : RowsOk w base L) {k : Nat} (hk : k < L.length) : L[k].Ok w base := h _ (List.getElem_mem hk)
end
theorem rowNe : 26 ≠ 5 := by decide
end Cib
