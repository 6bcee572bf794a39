/- Blocks by their types; appends of elements of any number of cells. Nothing about the program. -/
import Derived.Test.YtijinfmokbaahaaBase
set_option linter.unusedVariables false
set_option linter.unusedSimpArgs false
namespace Cib
open Go Go.RowKit Go.Proofs
/-- A block's type. -/
def Ty (w : World) (k : Nat) (t : TypeId) : Prop := ∃ cs fr, w.heap[k]? = some (.cells cs t fr)
/-- All blocks of cells but those of some types stay as they are. -/
def Same (ts : List TypeId) (w w' : World) : Prop := ∀ k t, Ty w k t → t ∉ ts → w'.heap[k]? = w.heap[k]?
section
variable {w w' w'' : World} {B : Nat}
theorem Ty.lt {k t} (h : Ty w k t) : k < w.heap.size := by
  obtain ⟨cs, fr, h⟩ := h
  exact (Array.getElem?_eq_some_iff.1 h).1
theorem Ty.one {k t t'} (h : Ty w k t) (h' : Ty w k t') : t = t' := by
  obtain ⟨cs, fr, h⟩ := h
  obtain ⟨cs', fr', h'⟩ := h'
  rw [h] at h'
  injection h' with h'
  injection h'
theorem Ty.same {k t ts} (h : Ty w k t) (hs : Same ts w w') (ht : t ∉ ts) : Ty w' k t := by
  have e := hs k t h ht
  obtain ⟨cs, fr, h⟩ := h
  exact ⟨cs, fr, e.trans h⟩
theorem Ty.below {k t} (h : Ty w k t) (hb : Below w.heap.size w w') : Ty w' k t := by
  have e := hb.block k h.lt
  obtain ⟨cs, fr, h⟩ := h
  exact ⟨cs, fr, e.trans h⟩
theorem Same.refl (ts : List TypeId) (w : World) : Same ts w w := fun _ _ _ _ => rfl
theorem Same.trans {ts} (h : Same ts w w') (h' : Same ts w' w'') : Same ts w w'' := fun k t hk ht => by
  have e := h k t hk ht
  obtain ⟨cs, fr, hk'⟩ := hk
  exact (h' k t ⟨cs, fr, e.trans hk'⟩ ht).trans e
theorem Same.below {ts} (h : Below w.heap.size w w') : Same ts w w' := fun k t hk _ => h.block k hk.lt
theorem Same.more {ts us : List TypeId} (h : Same ts w w') (hs : ∀ t ∈ ts, t ∈ us) : Same us w w' := fun k t hk ht => h k t hk fun h' => ht (hs t h')
theorem Same.drewN {ts} (h : Same ts w w') (q : Nat) : Same ts w (w'.drewN q) := h
theorem own_block {b k n c s : Nat} {e : TypeId} {o : Nat} {sp} {xs : List Value} (h : w.ownsRow b e s (.slice (some ⟨k, o, sp⟩) n c) n xs) : Ty w k e := by
  rcases h.2 with ⟨h0, _⟩ | ⟨g, cap, cur, hv, _, h2, _⟩
  · cases h0
  · injection hv with e1
    injection e1 with e1
    injection e1 with e1
    subst e1
    exact ⟨_, _, h2⟩
theorem own_blockV {b k s : Nat} {e : TypeId} {v : Value} {n : Nat} {xs : List Value} (h : w.ownsRow b e s v n xs) (hk : v.ownBlock = some k) : Ty w k e ∧ b ≤ k := by
  rcases h.2 with ⟨rfl, _⟩ | ⟨g, cap, cur, rfl, h1, h2, _⟩
  · simp [Value.ownBlock] at hk
  · simp [Value.ownBlock] at hk
    subst hk
    exact ⟨⟨_, _, h2⟩, h1⟩
theorem Blk.ty {k t cs} (h : Blk w k t cs) : Ty w k t := ⟨_, _, h⟩
theorem Blk.same {k t cs ts} (h : Blk w k t cs) (hs : Same ts w w') (ht : t ∉ ts) : Blk w' k t cs := (hs k t h.ty ht).trans h
theorem own_same {b s : Nat} {e : TypeId} {v : Value} {n : Nat} {xs : List Value} {ts} (h : w.ownsRow b e s v n xs) (hs : Same ts w w') (ht : e ∉ ts) : w'.ownsRow b e s v n xs := by
  refine ⟨h.1, ?_⟩
  rcases h.2 with h0 | ⟨g, cap, cur, hv, h1, h2, h3⟩
  · exact .inl h0
  · exact .inr ⟨g, cap, cur, hv, h1, (hs g e ⟨_, _, h2⟩ ht).trans h2, h3⟩
theorem own_belowS {b s : Nat} {e : TypeId} {v : Value} {n : Nat} {xs : List Value} (h : w.ownsRow b e s v n xs) (hb : Below w.heap.size w w') : w'.ownsRow b e s v n xs := own_same (ts := []) h (Same.below hb) (by simp)
theorem own_lowerS {b b' s : Nat} {e : TypeId} {v : Value} {n : Nat} {xs : List Value} (h : w.ownsRow b e s v n xs) (hb : b' ≤ b) : w.ownsRow b' e s v n xs := by
  refine ⟨h.1, ?_⟩
  rcases h.2 with h0 | ⟨g, cap, cur, hv, h1, h2⟩
  · exact .inl h0
  · exact .inr ⟨g, cap, cur, hv, Nat.le_trans hb h1, h2⟩
theorem own_capS {b s : Nat} {e : TypeId} {A : Option Addr} {n c : Nat} {vs : List Value} (h : w.ownsRow b e s (.slice A n c) n vs) : n ≤ c ∧ c ≤ maxLen := by
  rcases h.2 with ⟨hv, h0⟩ | ⟨g, cp, cur, hv, _, _, h1, h2, _⟩
  · injection hv with _ _ hc
    subst hc
    subst h0
    exact ⟨Nat.le_refl _, Nat.zero_le _⟩
  · injection hv with _ _ hc
    subst hc
    exact ⟨h1, h2⟩
theorem Same.grown {ts} {v : Value} {b s n : Nat} {e : TypeId} {xs : List Value} (h : w.ownsRow b e s v n xs) (hg : w.grownBy w' v.ownBlock) (he : e ∈ ts) : Same ts w w' := fun k t hk ht =>
  hg.block k hk.lt fun ek => ht (by rw [hk.one (own_blockV h ek.symm).1]; exact he)
theorem Same.setCell {ts} {g i : Nat} {t : TypeId} {cs : Array Value} (h : Blk w g t cs) (ht : t ∈ ts) (u : Value) : Same ts w (w.setCell ⟨g, i, none⟩ u) := fun k t' hk ht' =>
  heap_setCell_other w ⟨g, i, none⟩ k u fun ek => ht' (by
    have ek' : k = g := ek
    subst ek'
    rw [hk.one h.ty]
    exact ht)
theorem Rd.same {A : Option Addr} {vs : List Value} {ts t} (h : Rd w B A vs) (hs : Same ts w w') (ht : t ∉ ts) (hA : ∀ ad, A = some ad → Ty w ad.block t) : Rd w' B A vs := fun hn => by
  obtain ⟨ad, rfl, hb, hc⟩ := h hn
  have hty := hA ad rfl
  refine ⟨ad, rfl, hb, fun j hj => ?_⟩
  have e : w'.heap[(ad.add j).block]? = w.heap[(ad.add j).block]? := by
    have := hs _ _ hty ht
    rwa [addr_add_block]
  exact (World.cell?_of_block e).trans (hc j hj)
theorem Rd.of_ownS {b n c s : Nat} {e : TypeId} {A : Option Addr} {vs : List Value} (h : w.ownsRow b e s (.slice A n c) n vs) : Rd w w.heap.size A vs := fun hn => by
  rcases h.2 with ⟨hv, h0⟩ | ⟨g, cp, cur, hv, h1, h2, h3, h4, h5, h6⟩
  · have : vs.length = 0 := by rw [h.1, h0, Nat.zero_mul]
    exact absurd (List.eq_nil_of_length_eq_zero this) hn
  · injection hv with hA hn' hc
    subst hA
    refine ⟨_, rfl, (Array.getElem?_eq_some_iff.1 h2).1, fun j hj => ?_⟩
    have hj' := hj
    rw [h.1] at hj'
    have ea : (⟨g, 0, none⟩ : Addr).add j = ⟨g, j, none⟩ := by
      unfold Addr.add
      split
      · simp_all
      · simp
    rw [ea, cell_of_row w g j cur e (0, 0) h2]
    have hl : j < cur.size := by
      rw [h5]
      exact Nat.lt_of_lt_of_le hj' (Nat.mul_le_mul_right _ h3)
    rw [Array.getElem?_eq_getElem hl]
    congr 1
    have : vs[j] = (cur.toList.take (n * s))[j]'(by rw [h6]; exact hj) := by simp only [h6]
    rw [this, List.getElem_take]
    simp
end
section
variable {P : Program} {w : World}
/-- append of elements of s cells each to a slice of the call's own. -/
theorem run_appS (base s : Nat) (t ty e : TypeId) (i : TypeInfo) (z : Value) (bytes : Nat) (ht : P.underlying t = some (.slice e)) (hi : P.info? e = some i) (hz : i.zero = some z)
    (hsize : i.size = s) (hby : i.bytes = bytes) (hzs : z.cells.size = s) (h0s : 0 < s)
    (A0 : Option Addr) (n0 c0 : Nat) (xs : List Value) (hown : w.ownsRow base e s (.slice A0 n0 c0) n0 xs)
    (B : Nat) (ad : Addr) (m c : Nat) (news : List Value) (hm : news.length = m * s) (hr : Rd w B (some ad) news) (h1 : ∀ u ∈ news, u.oneCell' = true)
    (h63 : n0 + m ≤ maxLen) (hbytes : (n0 + m) * bytes ≤ 140737488355328) (hbase : base ≤ w.heap.size) :
    ∃ A' c' w', (Builtin.append_ #[t, t] ty #[.slice A0 n0 c0, .slice (some ad) m c]).run P w = .ok (.slice A' (n0 + m) c') w' ∧ w'.ownsRow base e s (.slice A' (n0 + m) c') (n0 + m) (xs ++ news) ∧
      w.grownBy w' (Value.slice A0 n0 c0).ownBlock ∧ Below base w w' := by
  have hcells : ∀ j u, news[j]? = some u → w.cell? (ad.add j) = some u := by
    intro j u hu
    obtain ⟨hj, he⟩ := List.getElem?_eq_some_iff.1 hu
    obtain ⟨ad', h, _, hc⟩ := hr (by rintro rfl; simp at hj)
    injection h with h
    subst h
    rw [hc j hj, he]
  obtain ⟨v', w', hrun, h2, h3, _, _⟩ := run_append_own_at (P := P) w base t ty e i z s bytes ht hi hz hsize hby hzs h0s _ n0 xs hown ad m c news hm hcells h1 h63 hbytes hbase
  have hf : ∃ A' c', v' = .slice A' (n0 + m) c' := by
    rcases Joins.ownsRow_forms h2 with ⟨rfl, h0⟩ | ⟨g, cap, rfl⟩
    · exact ⟨none, 0, by rw [h0]⟩
    · exact ⟨_, _, rfl⟩
  obtain ⟨A', c', rfl⟩ := hf
  exact ⟨A', c', w', hrun, h2, h3, (Below.refl base w).grown h3 hbase fun k hk => (hown.lt k hk).1⟩
theorem wp_appS {o : Oper} {a : Act} {K : Act → World → Prop} {Q : Exit → Act → World → Prop} (s x : Operand) (t : TypeId)
    (ho : o.op = .call { callee := .builtin .append, args := #[s, x], argTypes := #[t, t] })
    (base sz : Nat) (e : TypeId) (i : TypeInfo) (z : Value) (bytes : Nat) (ht : P.underlying t = some (.slice e)) (hi : P.info? e = some i) (hz : i.zero = some z)
    (hsize : i.size = sz) (hby : i.bytes = bytes) (hzs : z.cells.size = sz) (h0s : 0 < sz)
    (A0 : Option Addr) (n0 c0 : Nat) (xs : List Value) (hs : a.eval s = .slice A0 n0 c0) (hown : w.ownsRow base e sz (.slice A0 n0 c0) n0 xs)
    (B : Nat) (ad : Addr) (m c : Nat) (news : List Value) (hx : a.eval x = .slice (some ad) m c) (hm : news.length = m * sz) (hr : Rd w B (some ad) news) (h1 : ∀ u ∈ news, u.oneCell' = true)
    (h63 : n0 + m ≤ maxLen) (hbytes : (n0 + m) * bytes ≤ 140737488355328) (hbase : base ≤ w.heap.size)
    (h : ∀ A' c' w', w'.ownsRow base e sz (.slice A' (n0 + m) c') (n0 + m) (xs ++ news) → w.grownBy w' (Value.slice A0 n0 c0).ownBlock → Below base w w' → K (a.put o.dst (.slice A' (n0 + m) c')) w') :
    o.wp P a w K Q := by
  obtain ⟨A', c', w', hrun, h2, h3, h4⟩ := run_appS (P := P) (w := w) base sz t o.type e i z bytes ht hi hz hsize hby hzs h0s A0 n0 c0 xs hown B ad m c news hm hr h1 h63 hbytes hbase
  unfold Oper.wp execOp
  simp only [ho, resolve, invoke, builtin, Sem.run_bind, Sem.run_pure, Result.andThen_ok, List.map_toArray, List.map_cons, List.map_nil, hs, hx, hrun]
  exact h A' c' w' h2 h3 h4
theorem wpList_appS {ops : Array Oper} {rest : List Oper} {o : Oper} {a : Act} {Q : Exit → Act → World → Prop} (hgd : o.guard = none) (s x : Operand) (t : TypeId)
    (ho : o.op = .call { callee := .builtin .append, args := #[s, x], argTypes := #[t, t] })
    (base sz : Nat) (e : TypeId) (i : TypeInfo) (z : Value) (bytes : Nat) (ht : P.underlying t = some (.slice e)) (hi : P.info? e = some i) (hz : i.zero = some z)
    (hsize : i.size = sz) (hby : i.bytes = bytes) (hzs : z.cells.size = sz) (h0s : 0 < sz)
    (A0 : Option Addr) (n0 c0 : Nat) (xs : List Value) (hs : a.eval s = .slice A0 n0 c0) (hown : w.ownsRow base e sz (.slice A0 n0 c0) n0 xs)
    (B : Nat) (ad : Addr) (m c : Nat) (news : List Value) (hx : a.eval x = .slice (some ad) m c) (hm : news.length = m * sz) (hr : Rd w B (some ad) news) (h1 : ∀ u ∈ news, u.oneCell' = true)
    (h63 : n0 + m ≤ maxLen) (hbytes : (n0 + m) * bytes ≤ 140737488355328) (hbase : base ≤ w.heap.size)
    (h : ∀ A' c' w', w'.ownsRow base e sz (.slice A' (n0 + m) c') (n0 + m) (xs ++ news) → w.grownBy w' (Value.slice A0 n0 c0).ownBlock → Below base w w' → wpList P ops Q rest (a.put o.dst (.slice A' (n0 + m) c')) w') :
    wpList P ops Q (o :: rest) a w :=
  wpList_plain hgd fun K hK => wp_appS s x t ho base sz e i z bytes ht hi hz hsize hby hzs h0s A0 n0 c0 xs hs hown B ad m c news hx hm hr h1 h63 hbytes hbase (fun A' c' w' h2 h3 h4 => hK _ _ (h A' c' w' h2 h3 h4))
/-- append of a slice of elements of one cell, where it stands in a region. -/
theorem wp_app1 {o : Oper} {a : Act} {K : Act → World → Prop} {Q : Exit → Act → World → Prop} (s x : Operand) (t : TypeId)
    (ho : o.op = .call { callee := .builtin .append, args := #[s, x], argTypes := #[t, t] })
    (base : Nat) (e : TypeId) (i : TypeInfo) (z : Value) (bytes : Nat) (ht : P.underlying t = some (.slice e)) (hi : P.info? e = some i) (hz : i.zero = some z)
    (hsize : i.size = 1) (hby : i.bytes = bytes) (hzs : z.cells.size = 1)
    (A0 : Option Addr) (n0 c0 : Nat) (xs : List Value) (hs : a.eval s = .slice A0 n0 c0) (hown : w.ownsRow base e 1 (.slice A0 n0 c0) n0 xs)
    (B : Nat) (A : Option Addr) (m c : Nat) (news : List Value) (hx : a.eval x = .slice A m c) (hm : news.length = m) (hr : Rd w B A news) (h1 : ∀ u ∈ news, u.oneCell' = true)
    (h63 : n0 + m ≤ maxLen) (hbytes : (n0 + m) * bytes ≤ 140737488355328) (hbase : base ≤ w.heap.size)
    (h : ∀ A' c' w', w'.ownsRow base e 1 (.slice A' (n0 + m) c') (n0 + m) (xs ++ news) → w.grownBy w' (Value.slice A0 n0 c0).ownBlock → Below base w w' → K (a.put o.dst (.slice A' (n0 + m) c')) w') :
    o.wp P a w K Q := by
  obtain ⟨A', c', w', hrun, h2, h3, h4⟩ := run_app (P := P) w base t o.type e i z bytes ht hi hz hsize hby hzs A0 n0 c0 xs hown B A m c news hm hr h1 h63 hbytes hbase
  unfold Oper.wp execOp
  simp only [ho, resolve, invoke, builtin, Sem.run_bind, Sem.run_pure, Result.andThen_ok, List.map_toArray, List.map_cons, List.map_nil, hs, hx, hrun]
  exact h A' c' w' h2 h3 h4
end
end Cib
