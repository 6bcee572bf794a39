/- Cuts and appends of elements of any number of cells, nil ones too; ranging over the map, deleting, clearing. -/
import Derived.Test.YtagnckiikljhkaaVrdF
import Derived.Maps.RangeWalk
import Derived.Maps.Ext
set_option linter.unusedVariables false
set_option linter.unusedSimpArgs false
set_option maxRecDepth 20000
namespace Cib
open Go Go.RowKit Go.Proofs Go.Maps Go.WideMaps
def cutS (A : Option Addr) (c k s : Nat) : Option Addr := if c = k then A else A.map (·.add (k * s))
section
variable {P : Program} {w : World}
theorem run_cut_fromS (s : Nat) (t e : TypeId) (ht : P.underlying t = some (.slice e)) (hs : (P.info? e).map (·.size) = some s) (A : Option Addr) (n c k : Nat) (kd : IntKind) (hk : k ≤ n) (w : World) :
    (Instr.slice t (.slice A n c) (some (.int kd (k : Int))) none none).run P w = .ok (.slice (cutS A c k s) (n - k) (c - k)) w := by
  have he : P.elem t = e := by simp [Program.elem, ht]
  obtain ⟨i, hi, hsz⟩ := Option.map_eq_some_iff.1 hs
  have ht' : P.underlying t = some (.slice (P.elem t)) := by rw [he]; exact ht
  rw [run_slice_l w t A n c ht' kd (k : Int) (by omega) (by omega), he]
  simp [Go.sizeOf, typeInfo, hi, hsz, sliced, Cib.cutS]
theorem Rd.cutS {B : Nat} {A : Option Addr} {vs : List Value} (h : Rd w B A vs) {c k s : Nat} (h0 : 0 < s) (hc : vs.length ≤ c * s) : Rd w B (cutS A c k s) (vs.drop (k * s)) := fun hn => by
  have hl : k * s < vs.length := by
    by_cases hx : k * s < vs.length
    · exact hx
    · exact absurd (List.drop_eq_nil_of_le (by omega)) hn
  have hck : c ≠ k := by
    rintro rfl
    omega
  obtain ⟨ad, rfl, hb, hcell⟩ := h (by intro e; subst e; simp at hl)
  unfold Cib.cutS
  rw [if_neg hck]
  refine ⟨ad.add (k * s), rfl, by rw [addr_add_block]; exact hb, fun j hj => ?_⟩
  rw [addr_add_add, hcell _ (by simp at hj; omega)]
  simp
theorem run_appS_nil (base s : Nat) (t ty e : TypeId) (i : TypeInfo) (ht : P.underlying t = some (.slice e)) (hi : P.info? e = some i) (hsize : i.size = s)
    (v : Value) (n : Nat) (xs : List Value) (hown : w.ownsRow base e s v n xs) (c : Nat) : (Builtin.append_ #[t, t] ty #[v, .slice none 0 c]).run P w = .ok v w := by
  rcases hown.2 with ⟨rfl, rfl⟩ | ⟨g, cap, cur, rfl, _, _, hnc, _⟩
  · simp [Builtin.append_, run_underlying ht, Go.sizeOf, typeInfo, hi, Builtin.lenOf, Builtin.firstCells]
  · simp [Builtin.append_, run_underlying ht, Go.sizeOf, typeInfo, hi, Builtin.lenOf, Builtin.firstCells, hnc, storeCells]
theorem wp_appN {o : Oper} {a : Act} {K : Act → World → Prop} {Q : Exit → Act → World → Prop} (s x : Operand) (t : TypeId)
    (ho : o.op = .call { callee := .builtin .append, args := #[s, x], argTypes := #[t, t] })
    (base sz : Nat) (e : TypeId) (i : TypeInfo) (z : Value) (bytes : Nat) (ht : P.underlying t = some (.slice e)) (hi : P.info? e = some i) (hz : i.zero = some z)
    (hsize : i.size = sz) (hby : i.bytes = bytes) (hzs : z.cells.size = sz) (h0s : 0 < sz)
    (A0 : Option Addr) (n0 c0 : Nat) (xs : List Value) (hs : a.eval s = .slice A0 n0 c0) (hown : w.ownsRow base e sz (.slice A0 n0 c0) n0 xs)
    (B : Nat) (A : Option Addr) (m c : Nat) (news : List Value) (hx : a.eval x = .slice A m c) (hm : news.length = m * sz) (hr : Rd w B A news) (h1 : ∀ u ∈ news, u.oneCell' = true)
    (h63 : n0 + m ≤ maxLen) (hbytes : (n0 + m) * bytes ≤ 140737488355328) (hbase : base ≤ w.heap.size)
    (h : ∀ A' c' w', w'.ownsRow base e sz (.slice A' (n0 + m) c') (n0 + m) (xs ++ news) → w.grownBy w' (Value.slice A0 n0 c0).ownBlock → Below base w w' → K (a.put o.dst (.slice A' (n0 + m) c')) w') :
    o.wp P a w K Q := by
  rcases A with _ | ad
  · have hn : news = [] := by
      rcases news with _ | ⟨y, ys⟩
      · rfl
      · obtain ⟨ad, h, _⟩ := hr (by simp)
        cases h
    subst hn
    have hm0 : m = 0 := by
      rcases Nat.eq_zero_or_pos m with h | h
      · exact h
      · have := Nat.mul_pos h h0s
        rw [← hm] at this
        simp at this
    subst hm0
    have hrun := run_appS_nil (P := P) (w := w) base sz t o.type e i ht hi hsize _ n0 xs hown c
    unfold Oper.wp execOp
    simp only [ho, resolve, invoke, builtin, Sem.run_bind, Sem.run_pure, Result.andThen_ok, List.map_toArray, List.map_cons, List.map_nil, hs, hx, hrun]
    exact h A0 c0 w (by simpa using hown) (World.grownBy.refl w _) (Below.refl _ _)
  · exact wp_appS s x t ho base sz e i z bytes ht hi hz hsize hby hzs h0s A0 n0 c0 xs hs hown B ad m c news hx hm hr h1 h63 hbytes hbase h
theorem wpList_appN {ops : Array Oper} {rest : List Oper} {o : Oper} {a : Act} {Q : Exit → Act → World → Prop} (hgd : o.guard = none) (s x : Operand) (t : TypeId)
    (ho : o.op = .call { callee := .builtin .append, args := #[s, x], argTypes := #[t, t] })
    (base sz : Nat) (e : TypeId) (i : TypeInfo) (z : Value) (bytes : Nat) (ht : P.underlying t = some (.slice e)) (hi : P.info? e = some i) (hz : i.zero = some z)
    (hsize : i.size = sz) (hby : i.bytes = bytes) (hzs : z.cells.size = sz) (h0s : 0 < sz)
    (A0 : Option Addr) (n0 c0 : Nat) (xs : List Value) (hs : a.eval s = .slice A0 n0 c0) (hown : w.ownsRow base e sz (.slice A0 n0 c0) n0 xs)
    (B : Nat) (A : Option Addr) (m c : Nat) (news : List Value) (hx : a.eval x = .slice A m c) (hm : news.length = m * sz) (hr : Rd w B A news) (h1 : ∀ u ∈ news, u.oneCell' = true)
    (h63 : n0 + m ≤ maxLen) (hbytes : (n0 + m) * bytes ≤ 140737488355328) (hbase : base ≤ w.heap.size)
    (h : ∀ A' c' w', w'.ownsRow base e sz (.slice A' (n0 + m) c') (n0 + m) (xs ++ news) → w.grownBy w' (Value.slice A0 n0 c0).ownBlock → Below base w w' → wpList P ops Q rest (a.put o.dst (.slice A' (n0 + m) c')) w') :
    wpList P ops Q (o :: rest) a w :=
  wpList_plain hgd fun K hK => wp_appN s x t ho base sz e i z bytes ht hi hz hsize hby hzs h0s A0 n0 c0 xs hs hown B A m c news hx hm hr h1 h63 hbytes hbase (fun A' c' w' h2 h3 h4 => hK _ _ (h A' c' w' h2 h3 h4))
end
/-- The map is being ranged over: it says f; left: whose turn is still to come. -/
def RgV (w : World) (b r N : Nat) (f : Vrd.Mem) (left : Lit → Bool) (cnt : Nat) : Prop := ∃ D : DataW Unit, w.ranges Try.prog 9 (plainElem Try.prog 30) b r N D left cnt ∧ Reads D f
variable {w w' : World} {b r N cnt : Nat} {f : Vrd.Mem} {left : Lit → Bool}
theorem RgV.map (h : RgV w b r N f left cnt) : MapIs w b N f := by
  obtain ⟨D, h, hr⟩ := h
  exact ⟨D, h.owns, hr⟩
theorem RgV.left_eq (h : RgV w b r N f left cnt) : w.rangeLeft b r = cnt := by
  obtain ⟨D, h, hr⟩ := h
  exact h.left_eq
theorem RgV.ne (h : RgV w b r N f left cnt) : r ≠ b := by
  obtain ⟨D, h, hr⟩ := h
  exact h.ne
theorem RgV.kept {row : Option Nat} (h : RgV w b r N f left cnt) (hg : w.grownBy w' row) (hb : some b ≠ row) (hr : some r ≠ row) : RgV w' b r N f left cnt := by
  obtain ⟨D, h, h2⟩ := h
  exact ⟨D, h.kept hg hb hr, h2⟩
/-- The key is struck from those still to come. -/
def struck (left : Lit → Bool) (s : ByteArray) : Lit → Bool := fun z => left z && !z.sameKey (kl s)
theorem struck_same (left : Lit → Bool) (s : ByteArray) : struck left s (kl s) = false := by
  unfold struck
  rw [show (kl s).sameKey (kl s) = true from WideAt.sameKey_self (by trivial)]
  simp
theorem struck_other (left : Lit → Bool) {s s' : ByteArray} (h : s' ≠ s) : struck left s (kl s') = left (kl s') := by
  unfold struck
  rw [sameKey_ne (fun e => h (kl_inj e))]
  simp
section
variable {ops : Array Oper} {rest : List Oper} {o : Oper} {a : Act} {Q : Exit → Act → World → Prop}
theorem wpList_rangeV (hg : o.guard = none) (m : Operand) (hop : o.op = Op.range 47 m) (hm : a.eval m = .map (some b)) (hM : MapIs w b N f)
    (hK : ∀ w' left cnt, RgV w' b w.heap.size N f left cnt → cnt ≤ N → (∀ s, left (kl s) = (f s).isSome) → w.grownBy w' none → w'.heap.size = w.heap.size + 1 → wpList Try.prog ops Q rest (a.put o.dst (.pointer (some ⟨w.heap.size, 0, none⟩))) w') :
    wpList Try.prog ops Q (o :: rest) a w := by
  obtain ⟨D, hD, hr⟩ := hM
  exact wpList_range_own w hg m _ hop 9 30 strLaw Try.underlying47 _ b N D hm hD fun w' h1 h2 h3 => hK w' _ _ ⟨D, h1, hr⟩ hD.size_le (fun s => (hr s).2) h2 h3
theorem wpList_nextV (hg : o.guard = none) (it : Operand) (hop : o.op = Op.next it false) (hit : a.eval it = .pointer (some ⟨r, 0, none⟩)) (h : RgV w b r N f left cnt)
    (hDone : cnt = 0 → (∀ kl, left kl = false) → wpList Try.prog ops Q rest (a.put o.dst (.tuple #[.bool false])) w)
    (hMore : ∀ (s : ByteArray) (c : Nat) (w' : World) (cnt' : Nat), s.size ≤ maxLen → left (kl s) = true → f s = some c → c < 18446744073709551616 → RgV w' b r N f (struck left s) cnt' → cnt' < cnt → w.grownBy w' (some r) → w'.heap.size = w.heap.size →
      (Instr.entry (.pointer (some ⟨r, 0, none⟩))).run Try.prog w' = .ok (.tuple #[.string s, .int .u64 (c : Int)]) w' → wpList Try.prog ops Q rest (a.put o.dst (.tuple #[.bool true, .string s, .int .u64 (c : Int)])) w') :
    wpList Try.prog ops Q (o :: rest) a w := by
  obtain ⟨D, hD, hr⟩ := h
  refine wpList_next_ranges w hg it hop 9 strLaw (plainElem Try.prog 30) (fun s : ByteArray => Value.string s) (fun c : Int => Value.int .u64 c)
    (fun key k hkey => by obtain ⟨s, rfl, _⟩ := string_of_keyOf Try.underlying9 hkey; exact ⟨s, rfl⟩)
    (fun v y hv => by obtain ⟨c, rfl, _⟩ := plainElem_int_inv Try.underlying30 hv; exact ⟨c, rfl⟩) b r N D left cnt hit hD hDone ?_
  intro s c k y w' cnt' hkey hlk hv hat hrg hlt hgr hsz hen
  obtain ⟨s', es, rfl, hsz'⟩ := string_of_keyOf Try.underlying9 hkey
  injection es with es
  subst es
  obtain ⟨c', ec, rfl, hwc⟩ := plainElem_int_inv Try.underlying30 hv
  injection ec with _ ec
  subst ec
  obtain ⟨c', rfl, hc'⟩ := wf_u64 hwc
  obtain ⟨h1, h2⟩ := hr s
  have hhas : Maps.has D (kl s) = true := has_true_of_atKey hat
  have e1 := (h1.symm.trans (hat _))
  injection e1 with e1
  injection e1 with _ e1
  rw [hhas] at h2
  have hf : f s = some c' := by
    obtain ⟨y, hy⟩ := Option.isSome_iff_exists.1 h2.symm
    rw [hy] at e1 ⊢
    simp only [Option.getD_some] at e1
    congr 1
    omega
  exact hMore s c' w' cnt' hsz' hlk hf hc' ⟨D, hrg, hr⟩ hlt hgr hsz hen
theorem wpList_deleteV (hg : o.guard = none) (m x : Operand) (hop : o.op = Op.call { callee := Callee.builtin Builtin.delete, args := #[m, x], argTypes := #[47, 9] })
    (hm : a.eval m = .map (some b)) (h : RgV w b r N f left cnt) (s : ByteArray) (hx : a.eval x = .string s) (hs : s.size ≤ maxLen)
    (hK : ∀ w' cnt', RgV w' b r N (fun k => if k = s then none else f k) (struck left s) cnt' → cnt' ≤ cnt → w.grownBy w' (some b) → wpList Try.prog ops Q rest (a.put o.dst (.tuple #[])) w') :
    wpList Try.prog ops Q (o :: rest) a w := by
  obtain ⟨D, hD, hr⟩ := h
  refine wpList_delete_ranges w hg m x _ _ hop 30 strLaw Try.underlying47 _ b r N D left cnt hm hD (.string s) (kl s) hx (kl_key hs) fun w' cnt' h1 h2 h3 => hK w' cnt' ⟨_, h1, fun s' => ?_⟩ h2 h3.grown
  by_cases e : s' = s
  · subst e
    rw [atKey_del_same, has_del_same]
    simp
  · have e' : kl s' ≠ kl s := fun h => e (kl_inj h)
    have e2 : (fun k => if k = s then none else f k) s' = f s' := if_neg e
    rw [atKey_del_other e', has_del_other e', e2]
    exact hr s'
theorem wpList_clearV (hg : o.guard = none) (m : Operand) (hop : o.op = Op.call { callee := Callee.builtin Builtin.clear, args := #[m], argTypes := #[47] })
    (hm : a.eval m = .map (some b)) (h : MapIs w b N f)
    (hK : ∀ w', MapIs w' b 0 Vrd.none_ → w.grownBy w' (some b) → wpList Try.prog ops Q rest (a.put o.dst (.tuple #[])) w') :
    wpList Try.prog ops Q (o :: rest) a w := by
  obtain ⟨D, ⟨es, clock, hb, F, _, _⟩, hr⟩ := h
  have hrun : (Builtin.clear_ #[47] o.type #[.map (some b)]).run Try.prog w = .ok (.tuple #[]) (ChangeMaps.setBlock w b (.map #[] clock)) := by
    simp [Builtin.clear_, run_underlying Try.underlying47, MapKept.run_getObj_map hb, MapKept.run_setObj_map _ hb, ChangeMaps.setBlock]
  refine wpList_plain hg fun K hK' => ?_
  unfold Oper.wp execOp
  simp only [hop, resolve, invoke, builtin, Sem.run_bind, Sem.run_pure, Result.andThen_ok, List.map_toArray, List.map_cons, List.map_nil, hm, hrun]
  have ht : w.mapTurned (ChangeMaps.setBlock w b (.map #[] clock)) b := ⟨es, clock, #[], clock, hb, rfl⟩
  have hF : WideElems.Fit Try.prog 9 (plainElem (H := Unit) Try.prog 30) #[] clock := by
    refine ⟨by simp, ?_, by simp⟩
    have h := F.stamped
    constructor <;> simp
  exact hK' _ _ (hK _ ⟨.map [], ⟨#[], clock, ChangeMaps.heap_setBlock_same hb _, hF, by simp, rfl⟩, fun s => ⟨rfl, rfl⟩⟩ ht.grown)
end
end Cib
