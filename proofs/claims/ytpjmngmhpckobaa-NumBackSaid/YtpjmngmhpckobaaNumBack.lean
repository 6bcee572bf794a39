/- The statement 'NumBack' holds: for every input the call returns true and leaves what it was given as it was. -/
import Derived.Test.YtpjmngmhpckobaaNumL4
import Derived.WalkKit
import Derived.ProofKit
import Derived.OpenShut
import Derived.ShutString
import Derived.ChangeOld
import Derived.Below
namespace Go.Proofs.Ytpjmngmhpckobaa.numBack
open Go.ChangeShapes Go.WideShapes Go.ChangeAt Go.RowKit Go.Deep
open Go.ChangeMaps (open_string shut_string)
set_option linter.unusedVariables false
theorem own : ownKnob Try.prog.godebug = none := by kernel_rfl
theorem laidOut : laidOutB Try.prog = true := by kernel_rfl

theorem openItems {H : Type} {enc : TypeId × Value → H} {w : World} {held : Bool} {fuel : Nat} {A : Option Addr} {n c : Nat} {x : DataW H × List MemPlace} (h : DataW.trod enc Try.prog w 0 (fun _ => true) held fuel 49 [.slice A n c] = some x) :
    ∃ l : List Num.It, l.length = n ∧ n ≤ c ∧ c ≤ maxLen ∧ Cib.Rd w w.heap.size A (l.map itRow).flatten ∧ ∀ x ∈ l, x.s.size ≤ maxLen ∧ x.n < 18446744073709551616 ∧ -9223372036854775808 ≤ x.width ∧ x.width ≤ 9223372036854775807 := by
  obtain ⟨rows, hrl, hl, hm, hr, hrows⟩ := Cib.open_rows Try.underlying49 Try.underlying52 (by kernel_rfl) (by kernel_rfl) (by decide) h
  have hall : ∀ r ∈ rows, ∃ y : { y : Num.It // y.s.size ≤ maxLen ∧ y.n < 18446744073709551616 ∧ -9223372036854775808 ≤ y.width ∧ y.width ≤ 9223372036854775807 }, r = itRow y.1 := by
    intro r hr
    obtain ⟨hlen, m, hf⟩ := hrows r hr
    obtain ⟨v0, y0, e0, t0⟩ := hf 0 _ rfl
    obtain ⟨v1, y1, e1, t1⟩ := hf 1 _ rfl
    obtain ⟨v2, y2, e2, t2⟩ := hf 2 _ rfl
    obtain ⟨a, ha, _, wa⟩ := DataW.trod_int Try.underlying3 t0
    obtain ⟨b, hb, _, wb⟩ := DataW.trod_int Try.underlying23 t1
    obtain ⟨s, hs, _, ws⟩ := DataW.trod_string Try.underlying9 t2
    simp only [List.cons.injEq, and_true] at ha hb hs
    subst ha
    subst hb
    subst hs
    have h3 : r.length = 3 := hlen
    obtain ⟨k, rfl, hk⟩ := wf_u64 wb
    refine ⟨⟨⟨a, k, s⟩, ws, hk, (bounds_i64 wa).1, (bounds_i64 wa).2⟩, ?_⟩
    match r, h3 with
    | [r0, r1, r2], _ =>
      simp at e0 e1 e2
      rw [e0, e1, e2]
      rfl
  obtain ⟨l, rfl⟩ := Cib.list_map (fun y : { y : Num.It // y.s.size ≤ maxLen ∧ y.n < 18446744073709551616 ∧ -9223372036854775808 ≤ y.width ∧ y.width ≤ 9223372036854775807 } => itRow y.1) rows hall
  refine ⟨l.map (·.1), by simpa using hrl, hl, hm, by rw [List.map_map]; exact hr, ?_⟩
  intro x hx
  obtain ⟨y, _, rfl⟩ := List.mem_map.1 hx
  exact y.2

set_option maxRecDepth 100000 in
theorem lifted (os : Os) (started : os.Started) (H : Type) (enc : TypeId × Value → H) :
    ReturnsInHanded {} Try.checked os 7 .any (Rows.numBackSpec.pre6 enc Try.prog Try.f7 Rows.numBackRow.domain false) (Rows.numBackSpec.post enc Try.prog Try.f7 false true false false) := by
  refine returnsInHanded_of_change (C := Try.checked) own started (by kernel_rfl) Try.func7
    (ChangeSpec.witness6 (enc := enc) (C := Try.checked) false ⟨#[], #[.slice none 0 0], []⟩ 8 (by kernel_rfl) (by kernel_rfl) (by kernel_rfl) (by kernel_rfl)) ?_
  intro W base args ds gs before hval0 hW hcnd _
  have hval : ∀ (j : Nat) t v, Try.f7.params[j]? = some t → args[j]? = some v → Value.okWide Try.prog W .any base t v := hval0
  have hW' := hW
  obtain ⟨p, q, hA0, hV, rfl, hfz, hnd⟩ := hW
  have hA : DataW.TrodAll enc Try.prog W 0 (fun _ => true) true Try.f7.params.toList args.toList ds p := hA0
  rw [Try.params7] at hA hval
  obtain ⟨v0, vs0, d0, ds0, p0, q0, hargs, rfl, rfl, h0, r0⟩ := trodAll_cons hA
  obtain ⟨rfl, rfl, rfl⟩ := trodAll_nil r0
  obtain rfl : args = #[v0] := by cases args; simp_all
  obtain ⟨rfl, rfl⟩ := trodVars_none hV
  obtain ⟨a0, len0, cap0, rfl⟩ := okWide_slice Try.underlying49 (hval 0 49 v0 rfl rfl)
  have k0 := h0
  have lt0 : ∀ x ∈ p0, x.block < W.heap.size := by obtain ⟨m, hm⟩ := k0; exact DataW.trod_lt m _ _ _ hm
  obtain ⟨fuel, hf⟩ := h0
  simp only [Value.cells] at hf
  obtain ⟨l, hll, hl, hm, hr, hs⟩ := openItems hf
  subst hll
  clear hA0 hval0
  refine (lawBack a0 cap0 l W hr (Nat.le_trans hl hm) hs).mono fun e W' ⟨he, bel⟩ => ?_
  subst he
  exact ⟨_, rfl, _, _, _, [], _, [], hW', trodAll_mk1 (shut_bool Try.underlying4 _), (trodAll_cons_mk (Below.trod laidOut (by kernel_rfl) (of_decide_eq_true (by kernel_rfl)) k0 bel lt0) trodAll_mk0), rfl, bel.frame _, fun h => by cases h⟩

theorem over : Rows.numBackRow.holds Try.pinned (OpenSpec.ofChange Rows.numBackSpec) :=
  OpenClaim.holds_of_wide 7 Try.f7 rfl rfl rfl rfl rfl rfl rfl ⟨rfl, rfl, rfl, rfl, rfl⟩ rfl rfl rfl rfl rfl (by kernel_rfl) Try.func7 (by kernel_rfl)
    (of_decide_eq_true (by kernel_rfl)) (by unfold Func.isWrapper; first | (rw [if_pos (by decide +kernel)]; kernel_rfl) | (rw [if_neg (by decide +kernel)]; exact ⟨rfl, rfl⟩))
    (fun os started H enc _ => lifted os started H enc)

theorem proved : Rows.NumBackSaid := over
#print axioms proved
end Go.Proofs.Ytpjmngmhpckobaa.numBack
