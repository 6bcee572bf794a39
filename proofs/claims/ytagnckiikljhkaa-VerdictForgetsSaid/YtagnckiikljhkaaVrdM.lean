/- A verdict in memory; New, none, Len, Last, Ask. -/
import Derived.Test.YtagnckiikljhkaaTy
import Derived.Test.YtagnckiikljhkaaReg
import Derived.Test.YtagnckiikljhkaaVrdP
import Derived.Maps.OwnSet
import Derived.Maps.OwnOps
import Derived.Lib.Hide
set_option linter.unusedVariables false
set_option linter.unusedSimpArgs false
set_option maxRecDepth 20000
namespace Cib
open Go Go.RowKit Go.Proofs Go.Maps Go.WideMaps
theorem strLaw : Keyed Try.prog 9 := string_keyed Try.underlying9
theorem zeroU (w : World) : (zeroValue 30).run Try.prog w = .ok (.int .u64 0) w := by kernel_rfl
/-- What a key reads as. -/
def kl (s : ByteArray) : Lit := .string s.data.toList
theorem kl_inj {a b : ByteArray} (h : kl a = kl b) : a = b := by
  unfold kl at h
  injection h with h
  cases a
  cases b
  simp at h
  rw [h]
theorem kl_key {s : ByteArray} (h : s.size ≤ maxLen) : keyOf Try.prog 9 (.string s) = some (kl s) := keyOf_string_mk Try.underlying9 h
/-- The datum says of each key what the memory says. -/
def Reads (D : DataW Unit) (f : Vrd.Mem) : Prop := ∀ s, D.atKey (kl s) (.lit (.int .u64 0)) = .lit (.int .u64 ((f s).getD 0 : Nat)) ∧ Maps.has D (kl s) = (f s).isSome
/-- Block b is a map of at most N entries that says what the memory says. -/
def MapIs (w : World) (b N : Nat) (f : Vrd.Mem) : Prop := ∃ D : DataW Unit, w.ownsMap Try.prog 9 (plainElem Try.prog 30) b N D ∧ Reads D f
variable {w w' : World} {b N : Nat} {f : Vrd.Mem}
theorem MapIs.lt (h : MapIs w b N f) : b < w.heap.size := by
  obtain ⟨D, h, _⟩ := h
  exact h.lt
theorem MapIs.heap (h : MapIs w b N f) (e : w'.heap[b]? = w.heap[b]?) : MapIs w' b N f := by
  obtain ⟨D, ⟨es, cl, h1, h2, h3, h4⟩, hr⟩ := h
  exact ⟨D, ⟨es, cl, e.trans h1, h2, h3, h4⟩, hr⟩
theorem MapIs.below (h : MapIs w b N f) (hb : Below w.heap.size w w') : MapIs w' b N f := h.heap (hb.block b h.lt)
theorem MapIs.mono {N' : Nat} (h : MapIs w b N f) (hn : N ≤ N') : MapIs w b N' f := by
  obtain ⟨D, h, hr⟩ := h
  exact ⟨D, h.mono hn, hr⟩
theorem MapIs.noCell (h : MapIs w b N f) {k : Nat} {t : TypeId} (hk : Ty w k t) : k ≠ b := by
  rintro rfl
  obtain ⟨D, ⟨es, cl, h1, _⟩, _⟩ := h
  obtain ⟨cs, fr, h2⟩ := hk
  rw [h1] at h2
  cases h2
theorem MapIs.made (w : World) : MapIs (w.alloc (.map #[] 0)) w.heap.size 0 Vrd.none_ := ⟨.map [], World.ownsMap_made w _ _ _, fun s => ⟨rfl, rfl⟩⟩
theorem MapIs.put {D : DataW Unit} {s : ByteArray} {v : Nat} (h : w'.ownsMap Try.prog 9 (plainElem Try.prog 30) b N (D.put (kl s) (.lit (.int .u64 (v : Int))))) (hD : IsMap D) (hr : Reads D f) : MapIs w' b N (Vrd.note f v [s]) := by
  refine ⟨_, h, fun s' => ?_⟩
  by_cases e : s' = s
  · subst e
    have hk : WideAt.IsKeyLit (kl s') := trivial
    rw [atKey_put_same hD hk, has_put_same hD hk]
    unfold Vrd.note
    rw [if_pos (by simp)]
    exact ⟨rfl, rfl⟩
  · have e' : kl s' ≠ kl s := fun h => e (kl_inj h)
    rw [atKey_put_other e', has_put_other e']
    unfold Vrd.note
    rw [if_neg (by simpa using e)]
    exact hr s'
section
variable {ops : Array Oper} {rest : List Oper} {o : Oper} {a : Act} {Q : Exit → Act → World → Prop}
theorem wpList_lookV (hg : o.guard = none) (m x : Operand) (hop : o.op = Op.lookup 47 m x true) (hm : a.eval m = .map (some b)) (hM : MapIs w b N f) (s : ByteArray) (hx : a.eval x = .string s) (hs : s.size ≤ maxLen)
    (hK : wpList Try.prog ops Q rest (a.put o.dst (.tuple #[.int .u64 ((f s).getD 0 : Nat), .bool (f s).isSome])) w) : wpList Try.prog ops Q (o :: rest) a w := by
  obtain ⟨D, hD, hr⟩ := hM
  refine wpList_lookup_own_ok_int w hg m x _ hop 9 30 .u64 strLaw Try.underlying47 Try.underlying30 (zeroU w) b N D hm hD (.string s) (kl s) hx (kl_key hs) fun c hat _ => ?_
  obtain ⟨h1, h2⟩ := hr s
  rw [h1] at hat
  injection hat with hat
  injection hat with _ hat
  rw [← hat, h2]
  exact hK
theorem wpList_storeV (hg : o.guard = none) (m x v : Operand) (hop : o.op = Op.mapUpdate 47 m x v) (hm : a.eval m = .map (some b)) (hM : MapIs w b N f) (hn : N < maxLen) (s : ByteArray) (hx : a.eval x = .string s) (hs : s.size ≤ maxLen)
    (n : Nat) (hv : a.eval v = .int .u64 (n : Int)) (hn64 : n < 18446744073709551616)
    (hK : ∀ w', MapIs w' b (N + 1) (Vrd.note f n [s]) → w.grownBy w' (some b) → wpList Try.prog ops Q rest (a.put o.dst undef) w') : wpList Try.prog ops Q (o :: rest) a w := by
  obtain ⟨D, hD, hr⟩ := hM
  refine wpList_mapUpdate_own w hg m x v _ hop 9 30 strLaw Try.underlying47 (plainElem Try.prog 30) b N D hm hD hn (.string s) (.int .u64 (n : Int)) (kl s) hx hv (kl_key hs) (.lit (.int .u64 (n : Int))) [] (plainElem_int Try.underlying30 ?_) fun w' h1 h2 => hK w' (MapIs.put h1 hD.isMap hr) h2
  have e1 : IntKind.u64.min = 0 := rfl
  have e2 : IntKind.u64.max = 18446744073709551615 := rfl
  simp only [Lit.wf, Bool.and_eq_true, decide_eq_true_eq]
  omega
end
/-- The cells of the notes: a stamp, the keys' slice. -/
def noteCells (rows : List (Nat × Value)) : List Value := (rows.map fun r => [Value.int .u64 (r.1 : Int), r.2]).flatten
theorem noteCells_length : ∀ rows : List (Nat × Value), (noteCells rows).length = rows.length * 2
  | [] => rfl
  | r :: rows => by
    have ih := noteCells_length rows
    unfold noteCells at ih ⊢
    rw [List.map_cons, List.flatten_cons, List.length_append, ih]
    show 2 + rows.length * 2 = (rows.length + 1) * 2
    omega
theorem noteCells_snoc (rows : List (Nat × Value)) (r : Nat × Value) : noteCells (rows ++ [r]) = noteCells rows ++ [Value.int .u64 (r.1 : Int), r.2] := by
  unfold noteCells
  simp
/-- A verdict: its notes, its map, the stamp that was noted last. -/
structure Vd (w : World) (base g : Nat) (rows : List (Nat × Value)) (last N : Nat) (f : Vrd.Mem) (A : Option Addr) (n c b : Nat) : Prop where
  blk : Blk w g 49 #[.slice A n c, .map (some b), .int .u64 (last : Int)]
  own : w.ownsRow base 54 2 (.slice A n c) n (noteCells rows)
  map : MapIs w b N f
  hn : rows.length = n
  hg : base ≤ g
  hb : base ≤ b
variable {base g last n c : Nat} {rows : List (Nat × Value)} {A : Option Addr}
theorem Vd.c0 (h : Vd w base g rows last N f A n c b) : w.cell? ⟨g, 0, none⟩ = some (.slice A n c) := h.blk.cell 0
theorem Vd.c1 (h : Vd w base g rows last N f A n c b) : w.cell? ⟨g, 1, none⟩ = some (.map (some b)) := h.blk.cell 1
theorem Vd.c2 (h : Vd w base g rows last N f A n c b) : w.cell? ⟨g, 2, none⟩ = some (.int .u64 (last : Int)) := h.blk.cell 2
theorem Vd.below (h : Vd w base g rows last N f A n c b) (hb : Below w.heap.size w w') : Vd w' base g rows last N f A n c b :=
  ⟨h.blk.below hb h.blk.lt, own_belowS h.own hb, h.map.below hb, h.hn, h.hg, h.hb⟩
theorem mapEql (b : Nat) (w : World) : (binOp .eql 47 (.map (some b)) (.map none)).run Try.prog w = .ok (.bool false) w := by first | rfl | kernel_rfl
theorem mapEql0 (w : World) : (binOp .eql 47 (.map none) (.map none)).run Try.prog w = .ok (.bool true) w := by first | rfl | kernel_rfl
theorem vdNone (g b : Nat) (w : World) (h : w.cell? ⟨g, 1, none⟩ = some (.map (some b))) : Calls Try.prog 16 #[.pointer (some ⟨g, 0, none⟩)] w fun e w' => e = .returned (.bool false) ∧ w' = w := by
  have hme := mapEql b
  go_enter Try.func16, Try.ntmps16
  go_wp2
  go_ret
  exact ⟨rfl, rfl⟩
theorem vdNone0 (p : Option Addr) (w : World) (h : p = none ∨ ∃ g, p = some ⟨g, 0, none⟩ ∧ w.cell? ⟨g, 1, none⟩ = some (.map none)) : Calls Try.prog 16 #[.pointer p] w fun e w' => e = .returned (.bool true) ∧ w' = w := by
  rcases h with rfl | ⟨g, rfl, h⟩
  all_goals
    have hme := mapEql0
    go_enter Try.func16, Try.ntmps16
    go_wp2
    go_ret
    exact ⟨rfl, rfl⟩
theorem vdNew (w : World) : Calls Try.prog 7 #[] w fun e w' => ∃ g b, e = .returned (.pointer (some ⟨g, 0, none⟩)) ∧ Vd w' w.heap.size g [] 0 0 Vrd.none_ none 0 0 b ∧ Below w.heap.size w w' := by
  have hmm := @run_makeMap Try.prog
  go_enter Try.func7, Try.ntmps7
  go_wp2
  go_ret
  refine ⟨_, w.heap.size, rfl, ⟨by simpa using Blk.new (w.alloc (.map #[] 0)) 49 #[.slice none 0 0, .map (some w.heap.size), .int .u64 0], World.ownsRow_nil _ _ _ _, (MapIs.made w).below ((Below.refl _ _).alloc (Nat.le_refl _) _), rfl, by simp, Nat.le_refl _⟩, ((Below.refl _ _).alloc (Nat.le_refl _) _).alloc (by simp) _⟩
theorem vdLen (h : Vd w base g rows last N f A n c b) : Calls Try.prog 11 #[.pointer (some ⟨g, 0, none⟩)] w fun e w' => e = .returned (.int .i64 (n : Int)) ∧ w' = w := by
  have h0 := h.c0
  have H := Lib.hid (vdNone g b w h.c1)
  clear h
  go_enter Try.func11, Try.ntmps11
  go_wp2_with (go_at_call 16; refine H.out.mono ?_; rintro e w' ⟨rfl, rfl⟩)
  go_ret
  exact ⟨rfl, rfl⟩
theorem vdLast (h : Vd w base g rows last N f A n c b) : Calls Try.prog 15 #[.pointer (some ⟨g, 0, none⟩)] w fun e w' => e = .returned (.int .u64 (last : Int)) ∧ w' = w := by
  have h0 := h.c2
  have H := Lib.hid (vdNone g b w h.c1)
  clear h
  go_enter Try.func15, Try.ntmps15
  go_wp2_with (go_at_call 16; refine H.out.mono ?_; rintro e w' ⟨rfl, rfl⟩)
  go_ret
  exact ⟨rfl, rfl⟩
end Cib
