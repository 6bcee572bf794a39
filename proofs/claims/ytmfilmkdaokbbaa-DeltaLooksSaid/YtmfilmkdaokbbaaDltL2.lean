/- The law DeltaLooks. -/
import Derived.Test.YtmfilmkdaokbbaaDltG
import Derived.Test.YtmfilmkdaokbbaaDltR
set_option linter.unusedVariables false
set_option linter.unusedSimpArgs false
set_option maxRecDepth 40000
namespace Cib
open Go Go.RowKit Go.Proofs
/-- Both Offs answer the same. -/
theorem offSame (k m n c2 : Nat) (L : List RowB) (hk : 1 ≤ k) (hs : k + m ≤ 255) (hn : L.length = n) (hn2 : n ≤ 260) (hc : n ≤ c2) (hcm : c2 ≤ maxLen) (hl : ∀ r ∈ L, r.bs.length = r.n) (hrn : ∀ r ∈ L, r.n ≤ 3000) :
    ∃ l err, (∀ (w : World) (B : Nat) (A2 : Option Addr) (g gf c : Nat) (A : Option Addr), Cdr w g gf k m A c → Rd w B A2 (L.map RowB.v) → RowsAt w B L → B ≤ w.heap.size → Calls Try.prog 17 #[.pointer (some ⟨g, 0, none⟩), .slice A2 n c2] w (AnyI l err w)) ∧
      (∀ (w : World) (B : Nat) (A2 : Option Addr), Rd w B A2 (L.map RowB.v) → RowsAt w B L → B ≤ w.heap.size → Calls Try.prog 18 #[.int .i64 (k : Int), .int .i64 (m : Int), .slice A2 n c2] w (AnyI l err w)) := by
  by_cases hok : n = k + m ∧ Cod.evn (bss L) = true
  · exact ⟨_, _, fun w B A2 g gf c A hC hr hR hB => dlOff hC L B A2 n c2 hr hR hB hn hc hcm (fun r hr => by have := hrn r hr; omega) hok.1 hok.2, fun w B A2 hr hR hB => refOff7 k m L B A2 n c2 w hr hR hB hn hc hcm (fun r hr => by have := hrn r hr; omega) hk hs hok.1 hok.2⟩
  · exact ⟨[], 2, fun w B A2 g gf c A hC hr hR hB => (dlOffNo hC L B A2 n c2 hr hl hn (by omega) (fun r hr => by have := hrn r hr; unfold maxLen; omega) hok).mono fun _ _ h => ⟨_, 0, _, h.1, rfl, Nat.zero_le _, Rd.nil _ _ _, h.2⟩,
      fun w B A2 hr hR hB => refOffNo7 (k : Int) (m : Int) L B A2 n c2 w hr hl hn (by unfold maxLen; omega) hB (by rw [IntKind.wrap_i64]; omega) (fun x => hok ⟨by omega, x.2⟩)⟩
set_option maxHeartbeats 3200000 in
theorem lawLooks (k m : Int) (L : List RowB) (A : Option Addr) (n c : Nat) (w : World) (hk : -9223372036854775808 ≤ k ∧ k ≤ 9223372036854775807) (hm : -9223372036854775808 ≤ m ∧ m ≤ 9223372036854775807)
    (hr : Rd w w.heap.size A (L.map RowB.v)) (hR : RowsAt w w.heap.size L) (hn : L.length = n) (hc : n ≤ c) (hcm : c ≤ maxLen) :
    Calls Try.prog 4 #[.int .i64 k, .int .i64 m, .slice A n c] w fun e w' => e = .returned (.bool true) ∧ Below w.heap.size w w' := by
  have HMAY := Lib.hid (fun V => refMay5 k m hk hm V)
  have hnm : n ≤ maxLen := Nat.le_trans hc hcm
  have HFEW := Lib.hid (fun (V : World) (hb : Below w.heap.size w V) => lawFew5 (.int .i64 0) L w.heap.size A n c V (hr.below hb) hn hnm (fun r hr => Nat.le_trans (hR r hr).cap (hR r hr).max))
  obtain ⟨F, hF⟩ : ∃ F, Hid (fewB (lns L) = F) := ⟨_, rfl⟩
  rw [hF.out] at HFEW
  by_cases hmay : mayC k m
  · rw [mayB_true.2 hmay] at HMAY
    obtain ⟨hm1, hm2, hm3, hm4⟩ := hmay
    obtain ⟨k, rfl⟩ : ∃ n : Nat, k = (n : Int) := ⟨k.toNat, by omega⟩
    obtain ⟨m, rfl⟩ : ∃ n : Nat, m = (n : Int) := ⟨m.toNat, by omega⟩
    have hs : k + m ≤ 255 := by omega
    have hwkm : IntKind.i64.wrap ((k : Int) + (m : Int)) = (k : Int) + (m : Int) := by rw [IntKind.wrap_i64]; omega
    have HN := Lib.hid (fun V h => cdNew w.heap.size k m (by omega) (by omega) hs V h)
    by_cases h24 : 24 < (k : Int) + m
    · clear hr hR hn hF hk hm
      go_enter Try.func4, Try.ntmps4
      go_wp2_with fail
      refine (fldNewA _).mono ?_
      rintro e w1 ⟨rfl, hf, hz, hb0⟩
      have hb1 := hb0 w.heap.size w (Nat.le_refl _) (Below.refl _ _)
      clear hb0 hz
      go_wp2_with fail
      refine (HN.out w1 hf).mono ?_
      rintro e w2 ⟨g, A1, c1, rfl, hg, hC, hs2⟩
      have HB2 := Lib.hid (hs2.below hb1 (Nat.le_refl _) hb1.size)
      have HC2 := Lib.hid hC
      clear hs2 hb1 hg hC hf
      go_wp2_with fail
      refine (HMAY.out _).mono ?_
      rintro e w3 ⟨rfl, rfl⟩
      have HB3 := Lib.hid HB2.out
      go_wp2_with fail
      refine (goes _).mono ?_
      rintro e w5 ⟨rfl, hb5⟩
      have HB5 := Lib.hid (HB3.out.via hb5)
      clear hb5
      go_wp2
      go_ret
      exact ⟨rfl, HB5.out⟩
    · rcases F with _ | _
      · clear hr hR hn hF hk hm
        go_enter Try.func4, Try.ntmps4
        go_wp2_with fail
        refine (fldNewA _).mono ?_
        rintro e w1 ⟨rfl, hf, hz, hb0⟩
        have hb1 := hb0 w.heap.size w (Nat.le_refl _) (Below.refl _ _)
        clear hb0 hz
        go_wp2_with fail
        refine (HN.out w1 hf).mono ?_
        rintro e w2 ⟨g, A1, c1, rfl, hg, hC, hs2⟩
        have HB2 := Lib.hid (hs2.below hb1 (Nat.le_refl _) hb1.size)
        have HC2 := Lib.hid hC
        clear hs2 hb1 hg hC hf
        go_wp2_with fail
        refine (HMAY.out _).mono ?_
        rintro e w3 ⟨rfl, rfl⟩
        have HB3 := Lib.hid HB2.out
        go_wp2_with fail
        refine (HFEW.out _ HB3.out).mono ?_
        rintro e w4 ⟨rfl, rfl⟩
        have HB3 := Lib.hid HB3.out
        go_wp2_with fail
        refine (goes _).mono ?_
        rintro e w5 ⟨rfl, hb5⟩
        have HB5 := Lib.hid (HB3.out.via hb5)
        clear hb5
        go_wp2
        go_ret
        exact ⟨rfl, HB5.out⟩
      · obtain ⟨hl1, hl2⟩ := fewB_true hF.out
        have hl1' : n ≤ 260 := by simpa [lns, hn] using hl1
        have hmr : ∀ r ∈ L, r.n ≤ 3000 := fun r hr => hl2 r.n (List.mem_map.2 ⟨r, hr, rfl⟩)
        have HR := Lib.hid hr
        have HRR := Lib.hid hR
        have HLN := Lib.hid hn
        have HMR := Lib.hid hmr
        have HC := Lib.hid hc
        have HCM := Lib.hid hcm
        clear hl1 hl2 hmr
        clear hr hR hn hF hk hm
        go_enter Try.func4, Try.ntmps4
        go_wp2_with fail
        refine (fldNewA _).mono ?_
        rintro e w1 ⟨rfl, hf, hz, hb0⟩
        have hb1 := hb0 w.heap.size w (Nat.le_refl _) (Below.refl _ _)
        clear hb0 hz
        go_wp2_with fail
        refine (HN.out w1 hf).mono ?_
        rintro e w2 ⟨g, A1, c1, rfl, hg, hC, hs2⟩
        have HB2 := Lib.hid (hs2.below hb1 (Nat.le_refl _) hb1.size)
        have HC2 := Lib.hid hC
        clear hs2 hb1 hg hC hf
        go_wp2_with fail
        refine (HMAY.out _).mono ?_
        rintro e w3 ⟨rfl, rfl⟩
        have HB3 := Lib.hid HB2.out
        go_wp2_with fail
        refine (HFEW.out _ HB3.out).mono ?_
        rintro e w4 ⟨rfl, rfl⟩
        have HB3 := Lib.hid HB3.out
        clear HFEW HN HMAY
        obtain ⟨l, err, ho1, ho2⟩ := offSame k m n c L (by omega) hs HLN.out hl1' HC.out HCM.out HRR.out.lens HMR.out
        have HO1 := Lib.hid ho1
        have HO2 := Lib.hid ho2
        obtain ⟨x1, hx1⟩ : ∃ x, decide (err = 0) = x := ⟨_, rfl⟩
        obtain ⟨x2, hx2⟩ : ∃ x, decide (l = []) = x := ⟨_, rfl⟩
        have HX : Hid ((x1 && x2) = (decide (err = 0) && decide (l = []))) := (show _ = _ by rw [hx1, hx2])
        have HE1 : Hid ((err == 0) = x1) := (show _ = _ by rw [← hx1]; rfl)
        have HE2 : Hid (∀ n : Nat, l.length = n → ((n : Int) == 0) = x2) := fun n hn => by
          rw [← hx2]
          cases l with
          | nil => subst hn; rfl
          | cons a b => subst hn; simp; omega
        clear ho1 ho2 hx1 hx2
        go_wp2_with fail
        refine (HO1.out _ w.heap.size A g w.heap.size c1 A1 HC2.out (HR.out.below HB3.out) (fun r hr => (HRR.out r hr).below HB3.out) HB3.out.size).mono ?_
        rintro e w5 ⟨A5, n5, c5, rfl, hn5, hn51, hr5, hb5⟩
        have HB5 := Lib.hid (HB3.out.via hb5)
        have HC5 := Lib.hid (HC2.out.below hb5)
        have HP5 := Lib.hid hr5
        have HN5 := Lib.hid hn5
        clear hn5 hr5 hb5 HC2 HB2 HB3
        go_wp2_with fail
        refine (HO2.out _ w.heap.size A (HR.out.below HB5.out) (fun r hr => (HRR.out r hr).below HB5.out) HB5.out.size).mono ?_
        rintro e w6 ⟨A6, n6, c6, rfl, hn6, hn61, hr6, hb6⟩
        have HB6 := Lib.hid (HB5.out.via hb6)
        have HC6 := Lib.hid (HC5.out.below hb6)
        have HI6 := Lib.hid (refInts A5 A6 n5 n6 c5 c6 w6.heap.size l l w6 ((HP5.out.below hb6).more hb6.size) hr6 HN5.out hn6 (by omega) (Nat.le_refl _))
        rw [decide_eq_true rfl] at HI6
        have he2 := HE2.out n6 hn6
        have he1 := HE1.out
        clear hn6 hr6 hb6 HC5 HB5 HP5 HO2
        go_wp2_with fail
        refine HI6.out.mono ?_
        rintro e w7 ⟨rfl, hb7⟩
        have HB7 := Lib.hid (HB6.out.via hb7)
        have HH7 := Lib.hid (dlHolds _ _ l err _ HX.out (HO1.out _ w.heap.size A g w.heap.size c1 A1 (HC6.out.below hb7) (HR.out.below HB7.out) (fun r hr => (HRR.out r hr).below HB7.out) HB7.out.size))
        have hee : (err == err) = true := by simp
        clear hb7 HC6 HB6 HI6 HX HE1 HE2
        go_wp2_with fail
        refine HH7.out.mono ?_
        rintro e w8 ⟨rfl, hb8⟩
        have HB8 := Lib.hid (HB7.out.via hb8)
        clear hb8 HH7
        rcases x1 with _ | _ <;> rcases x2 with _ | _
        all_goals
          go_wp2_with fail
          refine (goes _).mono ?_
          rintro e w9 ⟨rfl, hb9⟩
          have HB9 := Lib.hid (HB8.out.via hb9)
          clear hb9
          go_wp2
          go_ret
          exact ⟨rfl, HB9.out⟩
  · rw [mayB_false.2 hmay] at HMAY
    have HN0 := Lib.hid (fun p V => cdNew0 p k m hmay hk hm V)
    clear hmay hr hR hn hF HFEW
    go_enter Try.func4, Try.ntmps4
    go_wp2_with fail
    refine (fldNewA _).mono ?_
    rintro e w1 ⟨rfl, hf, hz, hb0⟩
    have HB1 := Lib.hid (hb0 w.heap.size w (Nat.le_refl _) (Below.refl _ _))
    clear hb0 hz hf
    go_wp2_with fail
    refine (HN0.out _ _).mono ?_
    rintro e w2 ⟨rfl, rfl⟩
    go_wp2_with fail
    refine (HMAY.out _).mono ?_
    rintro e w3 ⟨rfl, rfl⟩
    go_wp2_with fail
    refine (goes _).mono ?_
    rintro e w4 ⟨rfl, hb4⟩
    have HB4 := Lib.hid (HB1.out.via hb4)
    clear hb4
    go_wp2
    go_ret
    exact ⟨rfl, HB4.out⟩
end Cib
