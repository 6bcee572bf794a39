/- The law CodeSplits. -/
import Derived.Test.YtoahkanaoapgpaaCodL
import Derived.Test.YtoahkanaoapgpaaCodO
set_option linter.unusedVariables false
set_option linter.unusedSimpArgs false
set_option maxRecDepth 40000
namespace Cib
open Go Go.RowKit Go.Proofs
/-- Rows, new ones or none, and an error value. -/
def AnyR (D : List (List UInt8)) (err : Int) (w : World) (e : Ending) (w' : World) : Prop :=
  ∃ A n c L, e = .returned (.tuple #[.slice A n c, .int .i64 err]) ∧ bss L = D ∧ L.length = n ∧ n ≤ c ∧ c ≤ maxLen ∧ Rd w' w'.heap.size A (L.map RowB.v) ∧ RowsAt w' w'.heap.size L ∧ Below w.heap.size w w'
/-- Bytes, new ones or none, and an error value. -/
def AnyE (bs : List UInt8) (err : Int) (w : World) (e : Ending) (w' : World) : Prop :=
  ∃ A n c, e = .returned (.tuple #[.slice A n c, .int .i64 err]) ∧ bs.length = n ∧ Rd w' w'.heap.size A (bs.map bv) ∧ Below w.heap.size w w'
theorem NewR.any {D : List (List UInt8)} {err : Int} {w w' : World} {e : Ending} (h : NewR D err w e w') : AnyR D err w e w' := by
  obtain ⟨A, n, c, L, h1, h2, h3, h4, h5, h6⟩ := h
  exact ⟨A, n, c, L, h1, h2, h3, (own_cap h4).1, (own_cap h4).2, Rd.of_own h4, h5.at, h6⟩
theorem AnyR.none {err : Int} {w w' : World} {e : Ending} (h : e = .returned (.tuple #[.slice none 0 0, .int .i64 err])) (hb : Below w.heap.size w w') : AnyR [] err w e w' :=
  ⟨_, 0, 0, [], h, rfl, rfl, Nat.le_refl _, Nat.zero_le _, Rd.nil _ _ _, RowsAt.nil, hb⟩
theorem NewE.any {bs : List UInt8} {w w' : World} {e : Ending} (h : NewE bs w e w') : AnyE bs 0 w e w' := by
  obtain ⟨A, n, c, h1, h2, h3, h4⟩ := h
  exact ⟨A, n, c, h1, h2, Rd.of_own h3, h4⟩
theorem AnyE.none {err : Int} {w w' : World} {e : Ending} (h : e = .returned (.tuple #[.slice none 0 0, .int .i64 err])) (hb : Below w.heap.size w w') : AnyE [] err w e w' := ⟨_, 0, 0, h, rfl, Rd.nil _ _ _, hb⟩
theorem flat_len {L : List RowB} (hl : ∀ r ∈ L, r.bs.length = r.n) (hev : Cod.evn (bss L) = true) : (flat L).length = L.length * Cod.len0 (bss L) := by
  have h : ∀ p, p ≤ L.length → (flat (L.take p)).length = p * Cod.len0 (bss L) := by
    intro p
    induction p with
    | zero => simp [flat]
    | succ p ih =>
      intro hp
      have hpl : p < L.length := hp
      have h1 := Cod.evn_get hev (j := p) (by simpa [bss] using hpl)
      have h2 : (bss L)[p]'(by simpa [bss] using hpl) = L[p].bs := by simp [bss]
      rw [h2] at h1
      rw [flat_take hpl, List.length_append, ih (by omega), h1, Nat.succ_mul]
  have := h _ (Nat.le_refl _)
  rwa [List.take_length] at this
/-- Both Splits answer the same. -/
theorem splitSame (k nb cb : Nat) (W : Int) (bs : List UInt8) (hk : k ≤ 255) (hn : bs.length = nb) (hcb : nb ≤ cb) (hcm : cb ≤ maxLen) :
    ∃ D err, (∀ (w : World) (B : Nat) (Ab : Option Addr) (g gf m c : Nat) (A : Option Addr), Cdr w g gf k m A c → Rd w B Ab (bs.map bv) → B ≤ w.heap.size → Calls Try.prog 17 #[.pointer (some ⟨g, 0, none⟩), .slice Ab nb cb, .int .i64 W] w (AnyR D err w)) ∧
      (∀ (w : World) (B : Nat) (Ab : Option Addr), Rd w B Ab (bs.map bv) → B ≤ w.heap.size → Calls Try.prog 25 #[.int .i64 (k : Int), .slice Ab nb cb, .int .i64 W] w (AnyR D err w)) := by
  by_cases hW : W < 1 ∨ 65536 < W ∨ (1 ≤ W ∧ W ≤ 65536 ∧ (k : Int) * W < nb)
  · refine ⟨[], if W < 1 ∨ 65536 < W then 2 else 260, fun w B Ab g gf m c A hC hr hB => ?_, fun w B Ab hr hB => ?_⟩
    · exact (cdSplitNo hC Ab nb cb W (Nat.le_trans hcb hcm) hW).mono fun e w' ⟨h1, h2⟩ => AnyR.none h1 (by rw [h2]; exact Below.refl _ _)
    · exact (refSplitNo5 k Ab nb cb W w hk (Nat.le_trans hcb hcm) hW).mono fun e w' ⟨h1, h2⟩ => AnyR.none h1 (by rw [h2]; exact Below.refl _ _)
  · obtain ⟨V, rfl⟩ : ∃ V : Nat, W = (V : Int) := ⟨W.toNat, by omega⟩
    have h1 : 1 ≤ V ∧ V ≤ 65536 := by omega
    have h2 : nb ≤ k * V := by
      have h3 : ¬ (k : Int) * (V : Int) < nb := fun h => hW (.inr (.inr ⟨by omega, by omega, h⟩))
      have h4 : (k : Int) * (V : Int) = ((k * V : Nat) : Int) := by simp
      omega
    refine ⟨_, _, fun w B Ab g gf m c A hC hr hB => (cdSplit hC B Ab nb cb V bs hr hB hn hcb hcm h1 h2).mono fun _ _ h => h.any, fun w B Ab hr hB => (refSplit5 k V B Ab nb cb bs w hr hB hn hk h1 h2).mono fun _ _ h => h.any⟩
/-- Both Joins answer the same. -/
theorem joinSame (k n : Nat) (size : Int) (L : List RowB) (hk : k ≤ 255) (hn : L.length = n) (hn2 : n ≤ 260) (hm : ∀ r ∈ L, r.n ≤ 3000) (hl : ∀ r ∈ L, r.bs.length = r.n) (hsz : -9223372036854775808 ≤ size ∧ size ≤ 9223372036854775807) :
    ∃ bs err, (∀ (w : World) (B : Nat) (A2 : Option Addr) (c2 : Nat) (g gf m c : Nat) (A : Option Addr), Cdr w g gf k m A c → Rd w B A2 (L.map RowB.v) → RowsAt w B L → B ≤ w.heap.size → Calls Try.prog 26 #[.pointer (some ⟨g, 0, none⟩), .slice A2 n c2, .int .i64 size] w (AnyE bs err w)) ∧
      (∀ (w : World) (B : Nat) (A2 : Option Addr) (c2 : Nat), Rd w B A2 (L.map RowB.v) → RowsAt w B L → B ≤ w.heap.size → Calls Try.prog 27 #[.int .i64 (k : Int), .slice A2 n c2, .int .i64 size] w (AnyE bs err w)) := by
  by_cases hok : n = k ∧ Cod.evn (bss L) = true ∧ 0 ≤ size ∧ size ≤ (k : Int) * (Cod.len0 (bss L) : Nat)
  · obtain ⟨h1, h2, h3, h4⟩ := hok
    subst h1
    obtain ⟨s, rfl⟩ : ∃ s : Nat, size = (s : Int) := ⟨size.toNat, by omega⟩
    have hfl := flat_len hl h2
    rw [hn] at hfl
    have h5 : s ≤ n * Cod.len0 (bss L) := by
      have : ((n * Cod.len0 (bss L) : Nat) : Int) = (n : Int) * (Cod.len0 (bss L) : Nat) := by simp
      omega
    refine ⟨(flat L).take s, 0, fun w B A2 c2 g gf m c A hC hr hR hB => (cdJoin hC L B A2 c2 s hr hR hB hn h2 (fun r hr => by have := hm r hr; omega) h5).mono fun _ _ h => h.any, fun w B A2 c2 hr hR hB => ?_⟩
    refine (refJoin5 (n : Int) (s : Int) L B A2 n c2 w hr hR hB hn hn2 hm hsz s (by simp) true ⟨fun _ => ⟨rfl, h2, by omega, by omega⟩, fun _ => rfl⟩).mono fun e w' h => ?_
    unfold JoinR at h
    rw [if_pos rfl] at h
    exact h.any
  · refine ⟨[], 2, fun w B A2 c2 g gf m c A hC hr hR hB => (cdJoinNo hC L B A2 n c2 size hr hl hn (by unfold maxLen; omega) (fun r hr => by have := hm r hr; omega) hok).mono fun e w' ⟨h1, h2⟩ => AnyE.none h1 h2, fun w B A2 c2 hr hR hB => ?_⟩
    refine (refJoin5 (k : Int) size L B A2 n c2 w hr hR hB hn hn2 hm hsz size.toNat rfl false ⟨fun h => by (cases h), fun ⟨h1, h2, h3, h4⟩ => absurd ⟨by omega, h2, h3, ?_⟩ hok⟩).mono fun e w' h => ?_
    · have hfl := flat_len hl h2
      rw [hn] at hfl
      have h5 : n = k := by omega
      subst h5
      have : ((n * Cod.len0 (bss L) : Nat) : Int) = (n : Int) * (Cod.len0 (bss L) : Nat) := by simp
      omega
    · unfold JoinR at h
      rw [if_neg (by decide)] at h
      exact AnyE.none h.1 h.2
set_option maxHeartbeats 3200000 in
theorem lawSplits (k : Int) (Ab : Option Addr) (nb cb : Nat) (bs : List UInt8) (W : Int) (L : List RowB) (A : Option Addr) (n c : Nat) (size : Int) (w : World) (hk : -9223372036854775808 ≤ k ∧ k ≤ 9223372036854775807) (hW : -9223372036854775808 ≤ W ∧ W ≤ 9223372036854775807) (hsz : -9223372036854775808 ≤ size ∧ size ≤ 9223372036854775807)
    (hrb : Rd w w.heap.size Ab (bs.map bv)) (hnb : bs.length = nb) (hcb : nb ≤ cb) (hcbm : cb ≤ maxLen) (hr : Rd w w.heap.size A (L.map RowB.v)) (hR : RowsAt w w.heap.size L) (hn : L.length = n) (hc : n ≤ c) (hcm : c ≤ maxLen) :
    Calls Try.prog 6 #[.int .i64 k, .slice Ab nb cb, .int .i64 W, .slice A n c, .int .i64 size] w fun e w' => e = .returned (.bool true) ∧ Below w.heap.size w w' := by
  have HMAY := Lib.hid (fun V => refMay5 k 1 hk (by omega) V)
  have hnm : n ≤ maxLen := Nat.le_trans hc hcm
  have hnbm : nb ≤ 9223372036854775807 := Nat.le_trans hcb hcbm
  have HFEW := Lib.hid (fun (V : World) (hb : Below w.heap.size w V) => lawFew5 (.int .i64 0) L w.heap.size A n c V (hr.below hb) hn hnm (fun r hr => Nat.le_trans (hR r hr).cap (hR r hr).max))
  obtain ⟨F, hF⟩ : ∃ F, Hid (fewB (lns L) = F) := ⟨_, rfl⟩
  rw [hF.out] at HFEW
  by_cases hmay : mayC k 1
  · rw [mayB_true.2 hmay] at HMAY
    obtain ⟨hm1, hm2, hm3, hm4⟩ := hmay
    obtain ⟨k, rfl⟩ : ∃ n : Nat, k = (n : Int) := ⟨k.toNat, by omega⟩
    have HN := Lib.hid (fun V h => cdNew w.heap.size k 1 (by omega) (by omega) (by omega) V h)
    by_cases hb3 : 3000 < nb
    · clear hr hR hn hF hk hrb hnb hcbm
      go_enter Try.func6, Try.ntmps6
      go_wp2_with fail
      refine (fldNewA _).mono ?_
      rintro e w1 ⟨rfl, hf, hz, hb0⟩
      have hb1 := hb0 w.heap.size w (Nat.le_refl _) (Below.refl _ _)
      clear hb0 hz
      go_wp2_with fail
      refine (HN.out w1 hf).mono ?_
      rintro e w2 ⟨g, A1, c1, rfl, hg, hC, hs2⟩
      have HB2 := Lib.hid (hs2.below hb1 (Nat.le_refl _) hb1.size)
      have HC2 := Lib.hid hC
      clear hs2 hb1 hg hC hf
      go_wp2_with fail
      refine (HMAY.out _).mono ?_
      rintro e w3 ⟨rfl, rfl⟩
      have HB3 := Lib.hid HB2.out
      go_wp2_with fail
      refine (codes _).mono ?_
      rintro e w5 ⟨rfl, hb5⟩
      have HB5 := Lib.hid (HB3.out.via hb5)
      clear hb5
      go_wp2
      go_ret
      exact ⟨rfl, HB5.out⟩
    · by_cases hw1 : 300 < W ∧ W ≤ 65536
      · obtain ⟨hw2, hw3⟩ := hw1
        clear hr hR hn hF hk hrb hnb hcbm
        go_enter Try.func6, Try.ntmps6
        go_wp2_with fail
        refine (fldNewA _).mono ?_
        rintro e w1 ⟨rfl, hf, hz, hb0⟩
        have hb1 := hb0 w.heap.size w (Nat.le_refl _) (Below.refl _ _)
        clear hb0 hz
        go_wp2_with fail
        refine (HN.out w1 hf).mono ?_
        rintro e w2 ⟨g, A1, c1, rfl, hg, hC, hs2⟩
        have HB2 := Lib.hid (hs2.below hb1 (Nat.le_refl _) hb1.size)
        have HC2 := Lib.hid hC
        clear hs2 hb1 hg hC hf
        go_wp2_with fail
        refine (HMAY.out _).mono ?_
        rintro e w3 ⟨rfl, rfl⟩
        have HB3 := Lib.hid HB2.out
        go_wp2_with fail
        refine (codes _).mono ?_
        rintro e w5 ⟨rfl, hb5⟩
        have HB5 := Lib.hid (HB3.out.via hb5)
        clear hb5
        go_wp2
        go_ret
        exact ⟨rfl, HB5.out⟩
      · rcases F with _ | _
        · by_cases hw2 : 300 < W
          · have hw3 : ¬ W ≤ 65536 := fun h => hw1 ⟨hw2, h⟩
            clear hw1
            clear hr hR hn hF hk hrb hnb hcbm
            go_enter Try.func6, Try.ntmps6
            go_wp2_with fail
            refine (fldNewA _).mono ?_
            rintro e w1 ⟨rfl, hf, hz, hb0⟩
            have hb1 := hb0 w.heap.size w (Nat.le_refl _) (Below.refl _ _)
            clear hb0 hz
            go_wp2_with fail
            refine (HN.out w1 hf).mono ?_
            rintro e w2 ⟨g, A1, c1, rfl, hg, hC, hs2⟩
            have HB2 := Lib.hid (hs2.below hb1 (Nat.le_refl _) hb1.size)
            have HC2 := Lib.hid hC
            clear hs2 hb1 hg hC hf
            go_wp2_with fail
            refine (HMAY.out _).mono ?_
            rintro e w3 ⟨rfl, rfl⟩
            have HB3 := Lib.hid HB2.out
            go_wp2_with fail
            refine (HFEW.out _ HB3.out).mono ?_
            rintro e w4 ⟨rfl, rfl⟩
            have HB3 := Lib.hid HB3.out
            go_wp2_with fail
            refine (codes _).mono ?_
            rintro e w5 ⟨rfl, hb5⟩
            have HB5 := Lib.hid (HB3.out.via hb5)
            clear hb5
            go_wp2
            go_ret
            exact ⟨rfl, HB5.out⟩
          · clear hw1
            clear hr hR hn hF hk hrb hnb hcbm
            go_enter Try.func6, Try.ntmps6
            go_wp2_with fail
            refine (fldNewA _).mono ?_
            rintro e w1 ⟨rfl, hf, hz, hb0⟩
            have hb1 := hb0 w.heap.size w (Nat.le_refl _) (Below.refl _ _)
            clear hb0 hz
            go_wp2_with fail
            refine (HN.out w1 hf).mono ?_
            rintro e w2 ⟨g, A1, c1, rfl, hg, hC, hs2⟩
            have HB2 := Lib.hid (hs2.below hb1 (Nat.le_refl _) hb1.size)
            have HC2 := Lib.hid hC
            clear hs2 hb1 hg hC hf
            go_wp2_with fail
            refine (HMAY.out _).mono ?_
            rintro e w3 ⟨rfl, rfl⟩
            have HB3 := Lib.hid HB2.out
            go_wp2_with fail
            refine (HFEW.out _ HB3.out).mono ?_
            rintro e w4 ⟨rfl, rfl⟩
            have HB3 := Lib.hid HB3.out
            go_wp2_with fail
            refine (codes _).mono ?_
            rintro e w5 ⟨rfl, hb5⟩
            have HB5 := Lib.hid (HB3.out.via hb5)
            clear hb5
            go_wp2
            go_ret
            exact ⟨rfl, HB5.out⟩
        · obtain ⟨hl1, hl2⟩ := fewB_true hF.out
          have hl1' : n ≤ 260 := by simpa [lns, hn] using hl1
          have hmr : ∀ r ∈ L, r.n ≤ 3000 := fun r hr => hl2 r.n (List.mem_map.2 ⟨r, hr, rfl⟩)
          have HR := Lib.hid hr
          have HRR := Lib.hid hR
          have HLN := Lib.hid hn
          have HMR := Lib.hid hmr
          have HRB := Lib.hid hrb
          have HNB := Lib.hid hnb
          have HCM := Lib.hid hcbm
          clear hl1 hl2 hmr
          by_cases hw2 : 300 < W
          · have hw3 : ¬ W ≤ 65536 := fun h => hw1 ⟨hw2, h⟩
            clear hw1
            clear hr hR hn hF hk hrb hnb hcbm
            go_enter Try.func6, Try.ntmps6
            go_wp2_with fail
            refine (fldNewA _).mono ?_
            rintro e w1 ⟨rfl, hf, hz, hb0⟩
            have hb1 := hb0 w.heap.size w (Nat.le_refl _) (Below.refl _ _)
            clear hb0 hz
            go_wp2_with fail
            refine (HN.out w1 hf).mono ?_
            rintro e w2 ⟨g, A1, c1, rfl, hg, hC, hs2⟩
            have HB2 := Lib.hid (hs2.below hb1 (Nat.le_refl _) hb1.size)
            have HC2 := Lib.hid hC
            clear hs2 hb1 hg hC hf
            go_wp2_with fail
            refine (HMAY.out _).mono ?_
            rintro e w3 ⟨rfl, rfl⟩
            have HB3 := Lib.hid HB2.out
            go_wp2_with fail
            refine (HFEW.out _ HB3.out).mono ?_
            rintro e w4 ⟨rfl, rfl⟩
            have HB3 := Lib.hid HB3.out
            clear HFEW HN HMAY
            obtain ⟨D, err, hs1, hs2⟩ := splitSame k nb cb W bs (by omega) HNB.out hcb HCM.out
            obtain ⟨J, err2, hj1, hj2⟩ := joinSame k n size L (by omega) HLN.out hl1' HMR.out HRR.out.lens hsz
            have HS1 := Lib.hid hs1
            have HS2 := Lib.hid hs2
            have HJ1 := Lib.hid hj1
            have HJ2 := Lib.hid hj2
            clear hs1 hs2 hj1 hj2
            have hww : ∀ {V : World}, Below w.heap.size w V → w.heap.size ≤ V.heap.size := fun h => h.size
            go_wp2_with fail
            refine (HS1.out _ w.heap.size Ab g w.heap.size 1 c1 A1 HC2.out (HRB.out.below HB3.out) HB3.out.size).mono ?_
            rintro e w5 ⟨A5, n5, c5, L5, rfl, hL5, hn5, hnc5, hcm5, hp5, hq5, hb5⟩
            have HB5 := Lib.hid (HB3.out.via hb5)
            have HC5 := Lib.hid (HC2.out.below hb5)
            have HP5 := Lib.hid hp5
            have HQ5 := Lib.hid hq5
            have HL5 := Lib.hid hL5
            have HN5 := Lib.hid hn5
            have HX5 := Lib.hid (Nat.le_trans hnc5 hcm5)
            clear hL5 hn5 hnc5 hcm5 hp5 hq5 hb5 HC2 HB2 HB3 HS1
            go_wp2_with fail
            refine (HS2.out _ w.heap.size Ab (HRB.out.below HB5.out) HB5.out.size).mono ?_
            rintro e w6 ⟨A6, n6, c6, L6, rfl, hL6, hn6, hnc6, hcm6, hp6, hq6, hb6⟩
            have HB6 := Lib.hid (HB5.out.via hb6)
            have HC6 := Lib.hid (HC5.out.below hb6)
            have HP5 := Lib.hid ((HP5.out.below hb6).more hb6.size)
            have HQ5 : Hid (RowsAt w6 w6.heap.size L5) := fun r hr => ((HQ5.out r hr).below hb6).more hb6.size
            have HP6 := Lib.hid hp6
            have HQ6 := Lib.hid hq6
            have HL6 := Lib.hid hL6
            have HN6 := Lib.hid hn6
            have HX6 := Lib.hid (Nat.le_trans hnc6 hcm6)
            clear hL6 hn6 hnc6 hcm6 hp6 hq6 hb6 HC5 HB5 HS2
            go_wp2_with fail
            refine (HJ1.out _ w.heap.size A c g w.heap.size 1 c1 A1 HC6.out (HR.out.below HB6.out) (fun r hr => (HRR.out r hr).below HB6.out) HB6.out.size).mono ?_
            rintro e w7 ⟨A7, n7, c7, rfl, hn7, hp7, hb7⟩
            have HB7 := Lib.hid (HB6.out.via hb7)
            have HP5 := Lib.hid ((HP5.out.below hb7).more hb7.size)
            have HQ5 : Hid (RowsAt w7 w7.heap.size L5) := fun r hr => ((HQ5.out r hr).below hb7).more hb7.size
            have HP6 := Lib.hid ((HP6.out.below hb7).more hb7.size)
            have HQ6 : Hid (RowsAt w7 w7.heap.size L6) := fun r hr => ((HQ6.out r hr).below hb7).more hb7.size
            have HP7 := Lib.hid hp7
            have HN7 := Lib.hid hn7
            clear hn7 hp7 hb7 HC6 HB6 HJ1
            go_wp2_with fail
            refine (HJ2.out _ w.heap.size A c (HR.out.below HB7.out) (fun r hr => (HRR.out r hr).below HB7.out) HB7.out.size).mono ?_
            rintro e w8 ⟨A8, n8, c8, rfl, hn8, hp8, hb8⟩
            have HB8 := Lib.hid (HB7.out.via hb8)
            have HP5 := Lib.hid ((HP5.out.below hb8).more hb8.size)
            have HQ5 : Hid (RowsAt w8 w8.heap.size L5) := fun r hr => ((HQ5.out r hr).below hb8).more hb8.size
            have HP6 := Lib.hid ((HP6.out.below hb8).more hb8.size)
            have HQ6 : Hid (RowsAt w8 w8.heap.size L6) := fun r hr => ((HQ6.out r hr).below hb8).more hb8.size
            have HP7 := Lib.hid ((HP7.out.below hb8).more hb8.size)
            have HP8 := Lib.hid hp8
            have HN8 := Lib.hid hn8
            clear hn8 hp8 hb8 HB7 HJ2
            go_wp2_with fail
            refine (refSame5 L5 L6 w8.heap.size A5 A6 n5 c5 n6 c6 w8 HP5.out HQ5.out HP6.out HQ6.out HN5.out HN6.out (Nat.le_refl _) HX5.out HX6.out).mono ?_
            rintro e w9 ⟨⟨x, rfl, hx⟩, hb9⟩
            obtain rfl : x = true := hx.2 (HL5.out.trans HL6.out.symm)
            have HB9 := Lib.hid (HB8.out.via hb9)
            have hcv1 := str_run (w := w9) (wS := w9) (HP7.out.below hb9) (Below.refl _ _) hb9.size HN7.out c7
            have hcv2 := str_run (w := w9) (wS := w9) (HP8.out.below hb9) (Below.refl _ _) hb9.size HN8.out c8
            clear hx hb9 HB8 HP5 HQ5 HP6 HQ6 HP7 HP8
            go_wp2_with fail
            refine (codes _).mono ?_
            rintro e w10 ⟨rfl, hb10⟩
            have HB10 := Lib.hid (HB9.out.via hb10)
            clear hb10
            go_wp2
            go_ret
            exact ⟨rfl, HB10.out⟩
          · clear hw1
            clear hr hR hn hF hk hrb hnb hcbm
            go_enter Try.func6, Try.ntmps6
            go_wp2_with fail
            refine (fldNewA _).mono ?_
            rintro e w1 ⟨rfl, hf, hz, hb0⟩
            have hb1 := hb0 w.heap.size w (Nat.le_refl _) (Below.refl _ _)
            clear hb0 hz
            go_wp2_with fail
            refine (HN.out w1 hf).mono ?_
            rintro e w2 ⟨g, A1, c1, rfl, hg, hC, hs2⟩
            have HB2 := Lib.hid (hs2.below hb1 (Nat.le_refl _) hb1.size)
            have HC2 := Lib.hid hC
            clear hs2 hb1 hg hC hf
            go_wp2_with fail
            refine (HMAY.out _).mono ?_
            rintro e w3 ⟨rfl, rfl⟩
            have HB3 := Lib.hid HB2.out
            go_wp2_with fail
            refine (HFEW.out _ HB3.out).mono ?_
            rintro e w4 ⟨rfl, rfl⟩
            have HB3 := Lib.hid HB3.out
            clear HFEW HN HMAY
            obtain ⟨D, err, hs1, hs2⟩ := splitSame k nb cb W bs (by omega) HNB.out hcb HCM.out
            obtain ⟨J, err2, hj1, hj2⟩ := joinSame k n size L (by omega) HLN.out hl1' HMR.out HRR.out.lens hsz
            have HS1 := Lib.hid hs1
            have HS2 := Lib.hid hs2
            have HJ1 := Lib.hid hj1
            have HJ2 := Lib.hid hj2
            clear hs1 hs2 hj1 hj2
            have hww : ∀ {V : World}, Below w.heap.size w V → w.heap.size ≤ V.heap.size := fun h => h.size
            go_wp2_with fail
            refine (HS1.out _ w.heap.size Ab g w.heap.size 1 c1 A1 HC2.out (HRB.out.below HB3.out) HB3.out.size).mono ?_
            rintro e w5 ⟨A5, n5, c5, L5, rfl, hL5, hn5, hnc5, hcm5, hp5, hq5, hb5⟩
            have HB5 := Lib.hid (HB3.out.via hb5)
            have HC5 := Lib.hid (HC2.out.below hb5)
            have HP5 := Lib.hid hp5
            have HQ5 := Lib.hid hq5
            have HL5 := Lib.hid hL5
            have HN5 := Lib.hid hn5
            have HX5 := Lib.hid (Nat.le_trans hnc5 hcm5)
            clear hL5 hn5 hnc5 hcm5 hp5 hq5 hb5 HC2 HB2 HB3 HS1
            go_wp2_with fail
            refine (HS2.out _ w.heap.size Ab (HRB.out.below HB5.out) HB5.out.size).mono ?_
            rintro e w6 ⟨A6, n6, c6, L6, rfl, hL6, hn6, hnc6, hcm6, hp6, hq6, hb6⟩
            have HB6 := Lib.hid (HB5.out.via hb6)
            have HC6 := Lib.hid (HC5.out.below hb6)
            have HP5 := Lib.hid ((HP5.out.below hb6).more hb6.size)
            have HQ5 : Hid (RowsAt w6 w6.heap.size L5) := fun r hr => ((HQ5.out r hr).below hb6).more hb6.size
            have HP6 := Lib.hid hp6
            have HQ6 := Lib.hid hq6
            have HL6 := Lib.hid hL6
            have HN6 := Lib.hid hn6
            have HX6 := Lib.hid (Nat.le_trans hnc6 hcm6)
            clear hL6 hn6 hnc6 hcm6 hp6 hq6 hb6 HC5 HB5 HS2
            go_wp2_with fail
            refine (HJ1.out _ w.heap.size A c g w.heap.size 1 c1 A1 HC6.out (HR.out.below HB6.out) (fun r hr => (HRR.out r hr).below HB6.out) HB6.out.size).mono ?_
            rintro e w7 ⟨A7, n7, c7, rfl, hn7, hp7, hb7⟩
            have HB7 := Lib.hid (HB6.out.via hb7)
            have HP5 := Lib.hid ((HP5.out.below hb7).more hb7.size)
            have HQ5 : Hid (RowsAt w7 w7.heap.size L5) := fun r hr => ((HQ5.out r hr).below hb7).more hb7.size
            have HP6 := Lib.hid ((HP6.out.below hb7).more hb7.size)
            have HQ6 : Hid (RowsAt w7 w7.heap.size L6) := fun r hr => ((HQ6.out r hr).below hb7).more hb7.size
            have HP7 := Lib.hid hp7
            have HN7 := Lib.hid hn7
            clear hn7 hp7 hb7 HC6 HB6 HJ1
            go_wp2_with fail
            refine (HJ2.out _ w.heap.size A c (HR.out.below HB7.out) (fun r hr => (HRR.out r hr).below HB7.out) HB7.out.size).mono ?_
            rintro e w8 ⟨A8, n8, c8, rfl, hn8, hp8, hb8⟩
            have HB8 := Lib.hid (HB7.out.via hb8)
            have HP5 := Lib.hid ((HP5.out.below hb8).more hb8.size)
            have HQ5 : Hid (RowsAt w8 w8.heap.size L5) := fun r hr => ((HQ5.out r hr).below hb8).more hb8.size
            have HP6 := Lib.hid ((HP6.out.below hb8).more hb8.size)
            have HQ6 : Hid (RowsAt w8 w8.heap.size L6) := fun r hr => ((HQ6.out r hr).below hb8).more hb8.size
            have HP7 := Lib.hid ((HP7.out.below hb8).more hb8.size)
            have HP8 := Lib.hid hp8
            have HN8 := Lib.hid hn8
            clear hn8 hp8 hb8 HB7 HJ2
            go_wp2_with fail
            refine (refSame5 L5 L6 w8.heap.size A5 A6 n5 c5 n6 c6 w8 HP5.out HQ5.out HP6.out HQ6.out HN5.out HN6.out (Nat.le_refl _) HX5.out HX6.out).mono ?_
            rintro e w9 ⟨⟨x, rfl, hx⟩, hb9⟩
            obtain rfl : x = true := hx.2 (HL5.out.trans HL6.out.symm)
            have HB9 := Lib.hid (HB8.out.via hb9)
            have hcv1 := str_run (w := w9) (wS := w9) (HP7.out.below hb9) (Below.refl _ _) hb9.size HN7.out c7
            have hcv2 := str_run (w := w9) (wS := w9) (HP8.out.below hb9) (Below.refl _ _) hb9.size HN8.out c8
            clear hx hb9 HB8 HP5 HQ5 HP6 HQ6 HP7 HP8
            go_wp2_with fail
            refine (codes _).mono ?_
            rintro e w10 ⟨rfl, hb10⟩
            have HB10 := Lib.hid (HB9.out.via hb10)
            clear hb10
            go_wp2
            go_ret
            exact ⟨rfl, HB10.out⟩
  · rw [mayB_false.2 hmay] at HMAY
    have HN0 := Lib.hid (fun p V => cdNew0 p k 1 hmay hk (by omega) V)
    clear hmay hr hR hn hF HFEW hrb hnb
    go_enter Try.func6, Try.ntmps6
    go_wp2_with fail
    refine (fldNewA _).mono ?_
    rintro e w1 ⟨rfl, hf, hz, hb0⟩
    have HB1 := Lib.hid (hb0 w.heap.size w (Nat.le_refl _) (Below.refl _ _))
    clear hb0 hz hf
    go_wp2_with fail
    refine (HN0.out _ _).mono ?_
    rintro e w2 ⟨rfl, rfl⟩
    go_wp2_with fail
    refine (HMAY.out _).mono ?_
    rintro e w3 ⟨rfl, rfl⟩
    go_wp2_with fail
    refine (codes _).mono ?_
    rintro e w4 ⟨rfl, hb4⟩
    have HB4 := Lib.hid (HB1.out.via hb4)
    clear hb4
    go_wp2
    go_ret
    exact ⟨rfl, HB4.out⟩
end Cib
