/- The document's Join. -/
import Derived.Test.YtoahkanaoapgpaaCodI
set_option linter.unusedVariables false
set_option linter.unusedSimpArgs false
set_option maxRecDepth 40000
namespace Cib
open Go Go.RowKit Go.Proofs
/-- The first of a slice's bytes, of the call's own. -/
theorem own_take {w : World} {base : Nat} {e : TypeId} {A : Option Addr} {n c s : Nat} {bs : List UInt8} (h : w.ownsRow base e 1 (.slice A n c) n (bs.map bv)) (hs : s ≤ n) (hl : bs.length = n) : w.ownsRow base e 1 (.slice A s c) s ((bs.take s).map bv) := by
  refine ⟨by simp [hl]; omega, ?_⟩
  rcases h.2 with ⟨h0, h1⟩ | ⟨g, cap, cur, hv, h1, h2, h3, h4, h5, h6⟩
  · injection h0 with h0 h01 h02
    subst h0 h02
    have : s = 0 := by omega
    exact .inl ⟨by rw [this], this⟩
  · injection hv with h0 h01 h02
    subst h0 h02
    refine .inr ⟨g, _, cur, rfl, h1, h2, by omega, h4, h5, ?_⟩
    rw [Nat.mul_one] at h6 ⊢
    rw [List.map_take, ← h6, List.take_take, Nat.min_eq_left hs]
/-- What Join answers: bytes, or none. -/
def JoinR (ok : Bool) (bs : List UInt8) (w : World) (e : Ending) (w' : World) : Prop :=
  if ok then NewE bs w e w' else e = .returned (.tuple #[.slice none 0 0, .int .i64 2]) ∧ Below w.heap.size w w'
theorem JoinR.no {bs : List UInt8} {w w' : World} {e : Ending} (h : e = .returned (.tuple #[.slice none 0 0, .int .i64 2])) (hb : Below w.heap.size w w') : JoinR false bs w e w' := by
  unfold JoinR
  rw [if_neg (by decide)]
  exact ⟨h, hb⟩
theorem JoinR.yes {bs : List UInt8} {w w' : World} {e : Ending} (h : NewE bs w e w') : JoinR true bs w e w' := by
  unfold JoinR
  rw [if_pos rfl]
  exact h
set_option maxHeartbeats 1600000 in
theorem refJoin5 (k size : Int) (L : List RowB) (B : Nat) (A2 : Option Addr) (n c2 : Nat) (w : World) (hr : Rd w B A2 (L.map RowB.v)) (hR : RowsAt w B L) (hB : B ≤ w.heap.size) (hn : L.length = n) (hn2 : n ≤ 260) (hm : ∀ r ∈ L, r.n ≤ 3000) (hsz : -9223372036854775808 ≤ size ∧ size ≤ 9223372036854775807)
    (sz : Nat) (hszn : size.toNat = sz) (ok : Bool) (hok : ok = true ↔ ((n : Int) = k ∧ Cod.evn (bss L) = true ∧ 0 ≤ size ∧ size ≤ (flat L).length)) :
    Calls Try.prog 27 #[.int .i64 k, .slice A2 n c2, .int .i64 size] w (JoinR ok ((flat L).take sz) w) := by
  have HE := Lib.hid (refEven5 L B A2 n c2 k w hr hR.lens hn (by unfold maxLen; omega) hB)
  cases hev : (decide ((n : Int) = k) && Cod.evn (bss L)) with
  | false =>
    rw [hev] at HE
    obtain rfl : ok = false := by
      cases ok with
      | false => rfl
      | true =>
        have := hok.1 rfl
        rw [decide_eq_true this.1, this.2.1] at hev
        cases hev
    clear hr hR hn hok hev hm
    go_enter Try.func27, Try.ntmps27
    go_wp2_with (go_at_call 35; refine HE.out.mono ?_; rintro e w1 ⟨rfl, hb1⟩)
    first | go_ret2 | go_ret
    exact JoinR.no rfl hb1
  | true =>
    rw [hev] at HE
    rw [Bool.and_eq_true, decide_eq_true_eq] at hev
    have HOK : Hid (ok = true ↔ (0 ≤ size ∧ size ≤ (flat L).length)) := by
      show _ ↔ _
      rw [hok]
      exact ⟨fun h => h.2.2, fun h => ⟨hev.1, hev.2, h⟩⟩
    have HR := Lib.hid hr
    have HRR := Lib.hid hR
    have HN := Lib.hid hn
    have HM := Lib.hid hm
    have HFL : Hid (∀ p, (flat (L.take p)).length ≤ 3000 * p) := by
      show ∀ p, _
      intro p
      induction p with
      | zero => simp [flat]
      | succ p ih =>
        by_cases hp : p < L.length
        · rw [flat_take hp, List.length_append]
          have h1 := hR.lens _ (List.getElem_mem hp)
          have h2 := hm _ (List.getElem_mem hp)
          omega
        · rw [List.take_of_length_le (by omega)]
          rw [List.take_of_length_le (by omega)] at ih
          omega
    clear hr hR hn hok hev hm
    go_enter Try.func27, Try.ntmps27
    go_wp2_with (go_at_call 35; refine HE.out.mono ?_; rintro e w1 ⟨rfl, hb1⟩)
    go_loopw [8, 9] (fun l i wr => ∃ (p q : Nat) (A' : Option Addr) (c' : Nat), i = .int .i64 p ∧ p ≤ n ∧ l = .slice A' q c' ∧ q ≤ c' ∧ c' ≤ 9223372036854775807 ∧ Hid ((flat (L.take p)).length = q) ∧ Hid (wr.ownsRow w.heap.size 5 1 (.slice A' q c') q ((flat (L.take p)).map bv)) ∧ Hid (Below w.heap.size w wr)) (fun _ i _ => n - (intOf i).toNat)
    case atStart => exact ⟨0, 0, none, 0, rfl, Nat.zero_le _, rfl, Nat.zero_le _, by omega, rfl, World.ownsRow_nil _ _ _ _, hb1⟩
    case round =>
      clear HE
      obtain ⟨p, q, A', c', rfl, hp, rfl, hqc, hcm, HQ, HO, HB⟩ := hrel
      have hq3 : q ≤ 3000 * 260 := by
        have h1 := HFL.out p
        have h2 := HQ.out
        omega
      by_cases hlt : p < n
      · have hpl : p < L.length := by rw [HN.out]; exact hlt
        obtain ⟨ad, rfl, hab, hcell⟩ := (HR.out.below (HB.out.mono hB)).row hpl
        have hRq := (HRR.out.get hpl).below (HB.out.mono hB)
        have hmq := HM.out _ (List.getElem_mem hpl)
        have HFT := Lib.hid (flat_take hpl)
        have HRD := Lib.hid hRq.rd
        have HLE := Lib.hid hRq.len
        clear hRq
        generalize L[p] = r at *
        obtain ⟨rA, rn, rc, bs⟩ := r
        simp only at hcell hmq HFT HRD HLE
        have HQ2 : Hid ((flat (L.take (p + 1))).length = q + rn) := (show _ = _ by rw [HFT.out, List.length_append, HQ.out, HLE.out])
        go_wp2_with (at_builtin; refine appB _ rfl (.tmp 20) (.tmp 24) rfl w.heap.size A' q c' ((flat (L.take p)).map bv) rfl HO.out B rA rn rc (bs.map bv) rfl (by rw [List.length_map]; exact HLE.out) HRD.out one_bytes (by omega) HB.out.size ?_; intro A3 c3 w3 ho3 hg3 hb3)
        have hcc := own_cap ho3
        unfold maxLen at hcc
        go_roundw
        case rel => exact ⟨p + 1, _, A3, c3, by go_num, hlt, rfl, hcc.1, hcc.2, HQ2, (show World.ownsRow _ _ _ _ _ _ _ by rw [HFT.out, List.map_append]; exact ho3), HB.out.trans hb3⟩
        case measure => simp [intOf]; omega
      · obtain rfl : p = n := by omega
        have HFA : Hid (flat (L.take p) = flat L) := (show _ = _ by rw [← HN.out]; exact flat_all L)
        rw [HFA.out] at HQ HO
        rw [HQ.out] at HOK
        by_cases hs0 : size < 0
        · obtain rfl : ok = false := by
            cases ok with
            | false => rfl
            | true => have := HOK.out.1 rfl; omega
          go_wp2
          first | go_ret2 | go_ret
          exact JoinR.no rfl HB.out
        · by_cases hsq : (q : Int) < size
          · obtain rfl : ok = false := by
              cases ok with
              | false => rfl
              | true => have := HOK.out.1 rfl; omega
            go_wp2
            first | go_ret2 | go_ret
            exact JoinR.no rfl HB.out
          · obtain rfl : ok = true := HOK.out.2 (by omega)
            obtain rfl : size = (sz : Int) := by omega
            have hsq' : sz ≤ q := by omega
            have hsl := fun V : World => run_cut_to (P := Try.prog) 38 5 Try.underlying38 sizeByte A' q c' sz .i64 (by omega) V
            have HTL : Hid (((flat L).take sz).length = sz) := (show _ = _ by rw [List.length_take, HQ.out]; omega)
            have HOT : Hid (wr.ownsRow w.heap.size 5 1 (.slice A' sz c') sz (((flat L).take sz).map bv)) := own_take HO.out hsq' (by rw [HQ.out])
            go_wp2
            first | go_ret2 | go_ret
            exact JoinR.yes ⟨A', sz, c', rfl, HTL.out, HOT.out, HB.out⟩
end Cib
