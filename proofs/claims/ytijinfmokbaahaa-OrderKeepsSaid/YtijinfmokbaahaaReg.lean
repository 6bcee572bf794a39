/- A region that draws its order and holds calls: what its reads must find may grow from call to call. Nothing about the program but its types. -/
import Derived.Test.YtijinfmokbaahaaBytes
import Derived.Deep.RegionHeld
set_option linter.unusedVariables false
set_option linter.unusedSimpArgs false
namespace Cib
open Go Go.RowKit Go.Proofs

/-- The condition that the reads go by may be strengthened on the way. -/
theorem wpAnyH_strong {P : Program} {md : Region.Mode} {ops : Array Oper} {Q : Exit → Act → World → Prop} {S1 S2 : World → Prop} (h : ∀ w, S2 w → S1 w) :
    ∀ {fuel : Nat} {listed : Array Bool} {a : Act} {w : World}, wpAnyH P md ops Q S2 fuel listed a w → wpAnyH P md ops Q S1 fuel listed a w := by
  intro fuel
  induction fuel with
  | zero => intro listed a w h2; exact h2
  | succ fuel ih =>
    intro listed a w h2
    exact ⟨h2.1, fun i hi => wpOp_mono (fun a' w' h' => ⟨h _ h'.1, ih h'.2⟩) (h2.2 i hi)⟩
theorem Rd.drew {w : World} {B : Nat} {A : Option Addr} {vs : List Value} (h : Rd w B A vs) : Rd w.drew B A vs := h
theorem Rd.drewN {w : World} {B : Nat} {A : Option Addr} {vs : List Value} (h : Rd w B A vs) (n : Nat) : Rd (w.drewN n) B A vs := h
/-- An operation that is guarded, and wanted. -/
theorem wpList_on {P : Program} {ops : Array Oper} {rest : List Oper} {o : Oper} {a : Act} {w : World} {Q : Exit → Act → World → Prop} (hw : Region.wanted o (yielded ops a.tmps) = true)
    (h : ∀ K : Act → World → Prop, (∀ a w, wpList P ops Q rest a w → K a w) → o.wp P a w K Q) : wpList P ops Q (o :: rest) a w :=
  wpList_step fun K hK => by rw [if_pos hw]; exact h K hK
theorem wpList_load_rowG {P : Program} {ops : Array Oper} {rest : List Oper} {o : Oper} {a : Act} {w : World} {Q : Exit → Act → World → Prop} (hw : Region.wanted o (yielded ops a.tmps) = true) (ty : TypeId) (x : Operand) (ho : o.op = .load ty x)
    (g : Nat) (hx : a.eval x = .pointer (some ⟨g, 0, none⟩)) (t : TypeId) (cs : Array Value) (fr : Nat × Nat) (d : TypeDesc) (hg : w.heap[g]? = some (.cells cs t fr))
    (hu : P.underlying ty = some d) (hd : (match d with | .struct _ | .array _ _ => true | _ => false) = true) (hi : (P.info? ty).map (·.size) = some cs.size)
    (h : wpList P ops Q rest (a.put o.dst (.agg cs)) w) : wpList P ops Q (o :: rest) a w :=
  wpList_on hw fun _ hK => wp_load_row ty x ho g hx t cs fr d hg hu hd hi (hK _ _ h)
theorem wpList_buildG {P : Program} {ops : Array Oper} {rest : List Oper} {o : Oper} {a : Act} {w : World} {Q : Exit → Act → World → Prop} (hw : Region.wanted o (yielded ops a.tmps) = true) (t : TypeId) (parts : Array (Nat × Operand)) (ho : o.op = .build t parts)
    (cells : Array Value) {l : List (Nat × Value)} (hb : P.built t l = some cells) (hl : (parts.map fun (i, x) => (i, a.eval x)).toList = l)
    (h : wpList P ops Q rest (a.put o.dst (.agg cells)) w) : wpList P ops Q (o :: rest) a w :=
  wpList_on hw fun K hK => wp_build t parts ho (by rw [hl, hb]; rfl) (hK _ _ (by rw [hl, hb]; exact h))
/-- A byte of a number below 256. -/
theorem byte_mk {n : Nat} (h : n < 256) : ∃ z : UInt8, Hid (UInt8.ofNat n = z) ∧ n = z.toNat :=
  ⟨UInt8.ofNat n, by (show _ = _; rfl), by rw [UInt8.toNat_ofNat', Nat.mod_eq_of_lt (by omega)]⟩
theorem wf_u8 {n : Int} (h : (Lit.int .u8 n).wf = true) : ∃ m : Nat, n = (m : Int) ∧ m < 256 := by
  simp only [Lit.wf, Bool.and_eq_true, decide_eq_true_eq] at h
  have h1 : IntKind.u8.min = 0 := rfl
  have h2 : IntKind.u8.max = 255 := rfl
  exact ⟨n.toNat, by omega, by omega⟩
theorem wf_i64 {n : Int} (h : (Lit.int .i64 n).wf = true) : -9223372036854775808 ≤ n ∧ n ≤ 9223372036854775807 := by
  simp only [Lit.wf, Bool.and_eq_true, decide_eq_true_eq] at h
  have h1 : IntKind.i64.min = -9223372036854775808 := rfl
  have h2 : IntKind.i64.max = 9223372036854775807 := rfl
  omega
theorem wf_u64 {n : Int} (h : (Lit.int .u64 n).wf = true) : ∃ k : Nat, n = (k : Int) ∧ k < 18446744073709551616 := by
  have hb := bounds_u64 h
  exact ⟨n.toNat, by omega, by omega⟩
/-- What string(v) answers where the slice reads as the text. -/
theorem str_run {w wS : World} {B : Nat} {A : Option Addr} {xs : List UInt8} (h : Rd w B A (xs.map bv)) (hS : Below w.heap.size w wS) (hB : B ≤ w.heap.size) {n : Nat} (hn : xs.length = n) (c : Nat) :
    (convert 45 9 (.slice A n c)).run Try.prog wS = .ok (.string ⟨xs.toArray⟩) wS :=
  run_str (P := Try.prog) 45 9 5 Try.underlying45 Try.underlying5 Try.underlying9 (h.keep fun p hp => hS.cell (by omega)) hn c
end Cib
