/- A region that draws its order and holds calls: what its reads must find may grow from call to call. Nothing about the program but its types. -/
import Derived.Test.YtpkpdamdclafjaaBytes
import Derived.Deep.RegionHeld
set_option linter.unusedVariables false
set_option linter.unusedSimpArgs false
namespace Cib
open Go Go.RowKit Go.Proofs

/-- The condition that the reads go by may be strengthened on the way. -/
theorem wpAnyH_strong {P : Program} {md : Region.Mode} {ops : Array Oper} {Q : Exit → Act → World → Prop} {S1 S2 : World → Prop} (h : ∀ w, S2 w → S1 w) :
    ∀ {fuel : Nat} {listed : Array Bool} {a : Act} {w : World}, wpAnyH P md ops Q S2 fuel listed a w → wpAnyH P md ops Q S1 fuel listed a w := by
  intro fuel
  induction fuel with
  | zero => intro listed a w h2; exact h2
  | succ fuel ih =>
    intro listed a w h2
    exact ⟨h2.1, fun i hi => wpOp_mono (fun a' w' h' => ⟨h _ h'.1, ih h'.2⟩) (h2.2 i hi)⟩
theorem Rd.drew {w : World} {B : Nat} {A : Option Addr} {vs : List Value} (h : Rd w B A vs) : Rd w.drew B A vs := h
theorem Rd.drewN {w : World} {B : Nat} {A : Option Addr} {vs : List Value} (h : Rd w B A vs) (n : Nat) : Rd (w.drewN n) B A vs := h
/-- A byte of a number below 256. -/
theorem byte_mk {n : Nat} (h : n < 256) : ∃ z : UInt8, Hid (UInt8.ofNat n = z) ∧ n = z.toNat :=
  ⟨UInt8.ofNat n, by (show _ = _; rfl), by rw [UInt8.toNat_ofNat', Nat.mod_eq_of_lt (by omega)]⟩
theorem wf_u8 {n : Int} (h : (Lit.int .u8 n).wf = true) : ∃ m : Nat, n = (m : Int) ∧ m < 256 := by
  simp only [Lit.wf, Bool.and_eq_true, decide_eq_true_eq] at h
  have h1 : IntKind.u8.min = 0 := rfl
  have h2 : IntKind.u8.max = 255 := rfl
  exact ⟨n.toNat, by omega, by omega⟩
theorem wf_i64 {n : Int} (h : (Lit.int .i64 n).wf = true) : -9223372036854775808 ≤ n ∧ n ≤ 9223372036854775807 := by
  simp only [Lit.wf, Bool.and_eq_true, decide_eq_true_eq] at h
  have h1 : IntKind.i64.min = -9223372036854775808 := rfl
  have h2 : IntKind.i64.max = 9223372036854775807 := rfl
  omega
theorem wf_u64 {n : Int} (h : (Lit.int .u64 n).wf = true) : ∃ k : Nat, n = (k : Int) ∧ k < 18446744073709551616 := by
  have hb := bounds_u64 h
  exact ⟨n.toNat, by omega, by omega⟩
/-- What string(v) answers where the slice reads as the text. -/
theorem str_run {w wS : World} {B : Nat} {A : Option Addr} {xs : List UInt8} (h : Rd w B A (xs.map bv)) (hS : Below w.heap.size w wS) (hB : B ≤ w.heap.size) {n : Nat} (hn : xs.length = n) (c : Nat) :
    (convert 28 9 (.slice A n c)).run Try.prog wS = .ok (.string ⟨xs.toArray⟩) wS :=
  run_str (P := Try.prog) 28 9 5 Try.underlying28 Try.underlying5 Try.underlying9 (h.keep fun p hp => hS.cell (by omega)) hn c
end Cib
