/- Order: a span cut, the pieces put behind a list. -/
import Derived.Test.YtijinfmokbaahaaUniU
import Derived.Maps.AppendAt
set_option linter.unusedVariables false
set_option linter.unusedSimpArgs false
set_option maxRecDepth 20000
namespace Cib
open Go Go.RowKit Go.Proofs
/-- All blocks stay as they are but those of P and one. -/
structure Bar (P : Nat → Prop) (g : Nat) (w w' : World) : Prop where
  os : w'.os = w.os
  tape : w'.tape = w.tape
  output : w'.output = w.output
  size : w.heap.size ≤ w'.heap.size
  block : ∀ k, k < w.heap.size → ¬ P k → k ≠ g → w'.heap[k]? = w.heap[k]?
/-- A list under way: its row lies in blocks of P, the slice itself in block g. -/
structure Out (P : Nat → Prop) (g : Nat) (w : World) (O : List Sn) : Prop where
  no : ¬ P g
  has : ∃ A k c, Blk w g 32 #[.slice A k c] ∧ Own w 0 A k c O ∧ ∀ b, (Value.slice A k c).ownBlock = some b → P b
section
variable {P P' : Nat → Prop} {g : Nat} {w w' w'' : World} {O : List Sn}
theorem Bar.refl (P : Nat → Prop) (g : Nat) (w : World) : Bar P g w w := ⟨rfl, rfl, rfl, Nat.le_refl _, fun _ _ _ _ => rfl⟩
theorem Bar.trans (h : Bar P g w w') (h' : Bar P g w' w'') : Bar P g w w'' := ⟨h'.os.trans h.os, h'.tape.trans h.tape, h'.output.trans h.output, Nat.le_trans h.size h'.size, fun k hk hp hg => (h'.block k (Nat.lt_of_lt_of_le hk h.size) hp hg).trans (h.block k hk hp hg)⟩
theorem Bar.of (hb : Below w.heap.size w w') : Bar P g w w' := ⟨hb.os, hb.tape, hb.output, hb.size, fun k hk _ _ => hb.block k hk⟩
theorem Bar.more (h : Bar P g w w') (hp : ∀ k, k < w.heap.size → P k → P' k) : Bar P' g w w' := ⟨h.os, h.tape, h.output, h.size, fun k hk hn hg => h.block k hk (fun hk' => hn (hp k hk hk')) hg⟩
theorem Bar.blk {k : Nat} {t : TypeId} {cs : Array Value} (h : Bar P g w w') (hb : Blk w k t cs) (hp : ¬ P k) (hg : k ≠ g) : Blk w' k t cs := (h.block k hb.lt hp hg).trans hb
theorem Bar.below {B : Nat} (h : Bar P g w w') (hB : B ≤ w.heap.size) (hp : ∀ k, k < B → ¬ P k) (hg : B ≤ g) : Below B w w' := ⟨h.os, h.tape, h.output, h.size, fun k hk => h.block k (by omega) (hp k hk) (by omega)⟩
theorem Out.via (h : Out P g w O) (hb : Below w.heap.size w w') : Out P g w' O := by
  obtain ⟨h1, A, k, c, h2, h3, h4⟩ := h
  exact ⟨h1, A, k, c, h2.below hb h2.lt, h3.via hb, h4⟩
theorem Out.more (h : Out P g w O) (hn : ¬ P' g) (hp : ∀ k, k < w.heap.size → P k → P' k) : Out P' g w O := by
  obtain ⟨h1, A, k, c, h2, h3, h4⟩ := h
  refine ⟨hn, A, k, c, h2, h3, fun b hb => hp b ?_ (h4 b hb)⟩
  exact (h3.lt b hb).2
end
theorem wpList_appSp {w : World} {ops : Array Oper} {rest : List Oper} {o : Oper} {a : Act} {Q : Exit → Act → World → Prop} (hgd : o.guard = none) (s x : Operand)
    (ho : o.op = .call { callee := .builtin .append, args := #[s, x], argTypes := #[32, 32] })
    (A0 : Option Addr) (n0 c0 : Nat) (O : List Sn) (hs : a.eval s = .slice A0 n0 c0) (hown : Own w 0 A0 n0 c0 O)
    (B : Nat) (ad : Addr) (m c : Nat) (M : List Sn) (hx : a.eval x = .slice (some ad) m c) (hm : M.length = m) (hr : Rd w B (some ad) (cellsL M)) (h63 : n0 + m ≤ 1000)
    (h : ∀ A' c' w', Own w' 0 A' (n0 + m) c' (O ++ M) → w.grownBy w' (Value.slice A0 n0 c0).ownBlock → ((Value.slice A' (n0 + m) c').ownBlock = (Value.slice A0 n0 c0).ownBlock ∨ (Value.slice A' (n0 + m) c').ownBlock = some w.heap.size) → wpList Try.prog ops Q rest (a.put o.dst (.slice A' (n0 + m) c')) w') :
    wpList Try.prog ops Q (o :: rest) a w := by
  refine wpList_plain hgd fun K hK => ?_
  obtain ⟨i0, hi, hz0, hz1, hz2⟩ := info_parts spanInfo3
  have hcells : ∀ j u, (cellsL M)[j]? = some u → w.cell? (ad.add j) = some u := by
    intro j u hu
    obtain ⟨hj, he⟩ := List.getElem?_eq_some_iff.1 hu
    obtain ⟨ad', h, _, hc⟩ := hr (by intro e; rw [e] at hj; simp at hj)
    injection h with h
    subst h
    rw [hc j hj, he]
  obtain ⟨v', w', hrun, h2, h3, _, h5⟩ := run_append_own_at (P := Try.prog) w 0 32 o.type 26 i0 _ 2 32 Try.underlying32 hi hz0 hz1 hz2 rfl (by decide) _ n0 (cellsL O) hown ad m c (cellsL M) (by rw [cellsL_len, hm]) hcells cellsL_cell (by unfold maxLen; omega) (by omega) (Nat.zero_le _)
  have hf : ∃ A' c', v' = .slice A' (n0 + m) c' := by
    rcases Joins.ownsRow_forms h2 with ⟨rfl, h0⟩ | ⟨g, cap, rfl⟩
    · exact ⟨none, 0, by rw [h0]⟩
    · exact ⟨_, _, rfl⟩
  obtain ⟨A', c', rfl⟩ := hf
  unfold Oper.wp execOp
  simp only [ho, resolve, invoke, builtin, Sem.run_bind, Sem.run_pure, Result.andThen_ok, List.map_toArray, List.map_cons, List.map_nil, hs, hx, hrun]
  exact hK _ _ (h A' c' w' (by unfold Own; rw [cellsL_app]; exact h2) h3 h5)
def keepV (g : Nat) : Value := .func (.func 37) #[] #[.pointer (some ⟨g, 0, none⟩)]
set_option maxHeartbeats 1000000 in
theorem keepOut (P : Nat → Prop) (g : Nat) (O : List Sn) (f t : ByteArray) (w : World) (h : Out P g w O) (hO : O.length ≤ 500) (hP : ∀ k, w.heap.size ≤ k → P k) :
    Calls Try.prog 37 #[.agg #[.string f, .string t], .pointer (some ⟨g, 0, none⟩)] w fun e w' => e = .returned (.tuple #[]) ∧ Out P g w' (O ++ [(f, t)]) ∧ Bar P g w w' := by
  obtain ⟨hn, A, k, c, hb, ho, hp⟩ := h
  have hk : k ≤ 500 := by rw [← ho.len]; exact hO
  have hgw := hb.lt
  have HB2 : Hid (Blk ((w.alloc (.cells #[.string f, .string t] 26)).alloc (.cells #[.string f, .string t] 26)) g 32 #[.slice A k c]) := Lib.hid ((hb.alloc _).alloc _)
  have HO2 : Hid (Own ((w.alloc (.cells #[.string f, .string t] 26)).alloc (.cells #[.string f, .string t] 26)) 0 A k c O) := Lib.hid (ho.via (((Below.refl _ _).alloc (Nat.le_refl _) _).alloc (by simp) _))
  have HW2 : Hid (Below w.heap.size w ((w.alloc (.cells #[.string f, .string t] 26)).alloc (.cells #[.string f, .string t] 26))) := Lib.hid (((Below.refl _ _).alloc (Nat.le_refl _) _).alloc (by simp) _)
  have HRD : Hid (Rd ((w.alloc (.cells #[.string f, .string t] 26)).alloc (.cells #[.string f, .string t] 26)) (w.heap.size + 1 + 1) (some ⟨w.heap.size + 1, 0, none⟩) (cellsL [(f, t)])) := by
    have := Rd.new (w.alloc (.cells #[.string f, .string t] 26)) #[.string f, .string t] 26 (0, 0) (vs := cellsL [(f, t)]) rfl
    have e : (w.alloc (.cells #[.string f, .string t] 26)).heap.size = w.heap.size + 1 := by simp
    rw [e] at this
    exact Lib.hid this
  have HP := Lib.hid (And.intro hn (And.intro hp hP))
  have hc := hb.cell 0
  simp only [List.getElem?_toArray, List.getElem?_cons_zero] at hc
  clear hb ho hp hP hn hO
  go_enter Try.func37, Try.ntmps37
  go_wp2_with (at_builtin; go_loud (refine wpList_appSp rfl (.tmp 3) (.tmp 5) rfl A k c O rfl HO2.out (w.heap.size + 1 + 1) ⟨w.heap.size + 1, 0, none⟩ 1 1 [(f, t)] rfl rfl HRD.out (by omega) ?_; intro A5 c5 w5 ho5 hg5 hx5; have hk5 : Blk w5 g 32 #[.slice A k c] := (hg5.block g (by simp; omega) (fun e => HP.out.1 (HP.out.2.1 g e.symm))).trans HB2.out; have HK5 := Lib.hid hk5; have s1 := hk5.cell 0; have f1 := hk5.frozen 0; have HO5 := Lib.hid ho5; have HG5 := Lib.hid hg5; have HX5 := Lib.hid hx5; clear hk5 ho5 hg5 hx5; simp only [List.getElem?_toArray, List.getElem?_cons_zero] at s1))
  first | go_end0 | refine bodyPost_ret (results_none rfl _ _ _) rfl ?_
  have hnew : ∀ b, (Value.slice A5 (k + 1) c5).ownBlock = some b → P b := fun b hb => by
    rcases HX5.out with h5 | h5
    · exact HP.out.2.1 b (h5 ▸ hb)
    · rw [h5] at hb
      injection hb with hb
      exact HP.out.2.2 b (by rw [← hb]; simp; omega)
  refine ⟨rfl, ⟨HP.out.1, A5, k + 1, c5, ?_, ?_, hnew⟩, ?_⟩
  · have := HK5.out.set 0 (.slice A5 (k + 1) c5)
    simpa using this
  · exact ownsRow_setCell_other HO5.out (fun e => HP.out.1 (hnew g e)) _
  · refine (Bar.of HW2.out).trans ⟨HG5.out.os, HG5.out.tape, HG5.out.output, by rw [World.size_setCell]; exact HG5.out.size, fun j hj hnp hjg => ?_⟩
    rw [heap_setCell_other _ _ j _ hjg]
    exact HG5.out.block j hj fun e => hnp (HP.out.2.1 j e.symm)
end Cib
