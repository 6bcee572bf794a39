/- The law DeltaUpdates. -/
import Derived.Test.YtmfilmkdaokbbaaDltG
import Derived.Test.YtmfilmkdaokbbaaDltQ
set_option linter.unusedVariables false
set_option linter.unusedSimpArgs false
set_option maxRecDepth 40000
namespace Cib
open Go Go.RowKit Go.Proofs
/-- Both Spreads answer the same. -/
theorem spreadSame (k m : Nat) (j : Int) (nc cc : Nat) (ch : List UInt8) (hs : k + m ≤ 255) (hn : ch.length = nc) (hl : nc ≤ 1000000) :
    ∃ D err, (∀ (w : World) (B : Nat) (Ac : Option Addr) (g gf c : Nat) (A : Option Addr), Cdr w g gf k m A c → Rd w B Ac (ch.map bv) → B ≤ w.heap.size → Calls Try.prog 12 #[.pointer (some ⟨g, 0, none⟩), .int .i64 j, .slice Ac nc cc] w (AnyR D err w)) ∧
      (∀ (w : World) (B : Nat) (Ac : Option Addr), Rd w B Ac (ch.map bv) → B ≤ w.heap.size → Calls Try.prog 13 #[.int .i64 (k : Int), .int .i64 (m : Int), .int .i64 j, .slice Ac nc cc] w (AnyR D err w)) := by
  by_cases hj : 0 ≤ j ∧ j < (k : Int)
  · obtain ⟨i, rfl⟩ : ∃ i : Nat, j = (i : Int) := ⟨j.toNat, by omega⟩
    exact ⟨_, _, fun w B Ac g gf c A hC hr hB => (dlSpread hC i (by omega) B Ac nc cc ch hr hn hB (by omega)).mono fun _ _ h => h.any, fun w B Ac hr hB => (refSpread7 k m i (by omega) hs B Ac nc cc ch w hr hn hB (by omega)).mono fun _ _ h => h.any⟩
  · exact ⟨[], 2, fun w B Ac g gf c A hC hr hB => (dlSpreadNo hC j hj _).mono fun _ _ h => AnyR.none h.1 h.2, fun w B Ac hr hB => (refSpread7No (k : Int) (m : Int) j hj _ w).mono fun _ _ h => AnyR.none h.1 (by rw [h.2]; exact Below.refl _ _)⟩
/-- Both Updates answer the same. -/
theorem updateSame (k m : Nat) (j : Int) (no co nn cn : Nat) (old now : List UInt8) (hs : k + m ≤ 255) (hol : old.length = no) (hnl : now.length = nn) (hlo : no ≤ 300) (hln : nn ≤ 300) (L : List RowB) (np cp : Nat) (hpl : L.length = np) (hpm : np ≤ 260) (hrn : ∀ r ∈ L, r.n ≤ 3000) :
    ∃ D err, (∀ (w : World) (B : Nat) (Ao An Ap : Option Addr) (g gf c : Nat) (A : Option Addr), Cdr w g gf k m A c → Rd w B Ao (old.map bv) → Rd w B An (now.map bv) → Rd w B Ap (L.map RowB.v) → RowsAt w B L → B ≤ w.heap.size → Calls Try.prog 14 #[.pointer (some ⟨g, 0, none⟩), .int .i64 j, .slice Ao no co, .slice An nn cn, .slice Ap np cp] w (AnyR D err w)) ∧
      (∀ (w : World) (B : Nat) (Ao An Ap : Option Addr), Rd w B Ao (old.map bv) → Rd w B An (now.map bv) → Rd w B Ap (L.map RowB.v) → RowsAt w B L → B ≤ w.heap.size → Calls Try.prog 15 #[.int .i64 (k : Int), .int .i64 (m : Int), .int .i64 j, .slice Ao no co, .slice An nn cn, .slice Ap np cp] w (AnyR D err w)) := by
  by_cases hj : 0 ≤ j ∧ j < (k : Int)
  · obtain ⟨i, rfl⟩ : ∃ i : Nat, j = (i : Int) := ⟨j.toNat, by omega⟩
    have hww : ∀ r ∈ L, r.n ≤ maxLen := fun r hr => by have := hrn r hr; unfold maxLen; omega
    by_cases hok : no = nn ∧ np = m ∧ ∀ r ∈ L, r.n = no
    · obtain ⟨h1, h2, h3⟩ := hok
      subst h1
      subst h2
      exact ⟨_, _, fun w B Ao An Ap g gf c A hC ho hn hp hP hB => (dlUpdate hC i (by omega) B Ao An no co cn old now ho hn hol hnl hB (by omega) L Ap cp hp hP hpl h3).mono fun _ _ h => h.any,
        fun w B Ao An Ap ho hn hp hP hB => refUpdate7 k np i (by omega) hs B Ao An no co no cn old now w ho hn hol hnl hB (by omega) (by omega) L Ap np cp hp hP hpl (by omega) (fun r hr => by have := hrn r hr; omega) true ⟨fun _ => ⟨rfl, rfl, h3⟩, fun _ => rfl⟩ _ _ (fun _ => ⟨rfl, rfl⟩) (fun h => by cases h)⟩
    · refine ⟨[], 2, fun w B Ao An Ap g gf c A hC ho hn hp hP hB => (dlUpdateNo hC (i : Int) Ao An no co nn cn (by omega) (by omega) L B Ap np cp hp hpl (by omega) hww (fun x => hok ⟨x.2.1, ?_⟩)).mono fun _ _ h => AnyR.none h.1 h.2,
        fun w B Ao An Ap ho hn hp hP hB => refUpdate7 k m i (by omega) hs B Ao An no co nn cn old now w ho hn hol hnl hB (by omega) (by omega) L Ap np cp hp hP hpl (by omega) (fun r hr => by have := hrn r hr; omega) false ⟨fun h => (by cases h), fun h => absurd h hok⟩ _ _ (fun h => by cases h) (fun _ => ⟨rfl, rfl⟩)⟩
      have h4 := x.2.2
      unfold wdB lns at h4
      rw [Bool.and_eq_true, decide_eq_true_eq, List.all_eq_true, List.length_map, hpl] at h4
      exact ⟨h4.2, fun r hr => by simpa using h4.1 r.n (List.mem_map.2 ⟨r, hr, rfl⟩)⟩
  · have hww : ∀ r ∈ L, r.n ≤ maxLen := fun r hr => by have := hrn r hr; unfold maxLen; omega
    exact ⟨[], 2, fun w B Ao An Ap g gf c A hC ho hn hp hP hB => (dlUpdateNo hC j Ao An no co nn cn (by omega) (by omega) L B Ap np cp hp hpl (by omega) hww (fun x => hj x.1)).mono fun _ _ h => AnyR.none h.1 h.2,
        fun w B Ao An Ap ho hn hp hP hB => refUpdate7No (k : Int) (m : Int) j hj B Ao An no co nn cn old now w ho hn hol hnl hB (by omega) (by omega) _⟩
set_option maxHeartbeats 3200000 in
theorem lawUpdates (k m j : Int) (Ao An : Option Addr) (no co nn cn : Nat) (old now : List UInt8) (L : List RowB) (A : Option Addr) (n c : Nat) (w : World) (hk : -9223372036854775808 ≤ k ∧ k ≤ 9223372036854775807) (hm : -9223372036854775808 ≤ m ∧ m ≤ 9223372036854775807)
    (hro : Rd w w.heap.size Ao (old.map bv)) (hno : old.length = no) (hco : no ≤ co) (hcom : co ≤ maxLen) (hrw : Rd w w.heap.size An (now.map bv)) (hnn : now.length = nn) (hcn : nn ≤ cn) (hcnm : cn ≤ maxLen)
    (hr : Rd w w.heap.size A (L.map RowB.v)) (hR : RowsAt w w.heap.size L) (hn : L.length = n) (hc : n ≤ c) (hcm : c ≤ maxLen) :
    Calls Try.prog 3 #[.int .i64 k, .int .i64 m, .int .i64 j, .slice Ao no co, .slice An nn cn, .slice A n c] w fun e w' => e = .returned (.bool true) ∧ Below w.heap.size w w' := by
  have HMAY := Lib.hid (fun V => refMay5 k m hk hm V)
  have hnm : n ≤ maxLen := Nat.le_trans hc hcm
  have hnom : no ≤ 9223372036854775807 := Nat.le_trans hco hcom
  have hnnm : nn ≤ 9223372036854775807 := Nat.le_trans hcn hcnm
  have HFEW := Lib.hid (fun (V : World) (hb : Below w.heap.size w V) => lawFew5 (.int .i64 0) L w.heap.size A n c V (hr.below hb) hn hnm (fun r hr => Nat.le_trans (hR r hr).cap (hR r hr).max))
  obtain ⟨F, hF⟩ : ∃ F, Hid (fewB (lns L) = F) := ⟨_, rfl⟩
  rw [hF.out] at HFEW
  by_cases hmay : mayC k m
  · rw [mayB_true.2 hmay] at HMAY
    obtain ⟨hm1, hm2, hm3, hm4⟩ := hmay
    obtain ⟨k, rfl⟩ : ∃ n : Nat, k = (n : Int) := ⟨k.toNat, by omega⟩
    obtain ⟨m, rfl⟩ : ∃ n : Nat, m = (n : Int) := ⟨m.toNat, by omega⟩
    have hs : k + m ≤ 255 := by omega
    have hwkm : IntKind.i64.wrap ((k : Int) + (m : Int)) = (k : Int) + (m : Int) := by rw [IntKind.wrap_i64]; omega
    have HN := Lib.hid (fun V h => cdNew w.heap.size k m (by omega) (by omega) hs V h)
    by_cases h24 : 24 < (k : Int) + m
    · clear hr hR hn hF hk hm hro hno hcom hrw hnn hcnm
      go_enter Try.func3, Try.ntmps3
      go_wp2_with fail
      refine (fldNewA _).mono ?_
      rintro e w1 ⟨rfl, hf, hz, hb0⟩
      have hb1 := hb0 w.heap.size w (Nat.le_refl _) (Below.refl _ _)
      clear hb0 hz
      go_wp2_with fail
      refine (HN.out w1 hf).mono ?_
      rintro e w2 ⟨g, A1, c1, rfl, hg, hC, hs2⟩
      have HB2 := Lib.hid (hs2.below hb1 (Nat.le_refl _) hb1.size)
      have HC2 := Lib.hid hC
      clear hs2 hb1 hg hC hf
      go_wp2_with fail
      refine (HMAY.out _).mono ?_
      rintro e w3 ⟨rfl, rfl⟩
      have HB3 := Lib.hid HB2.out
      go_wp2_with fail
      refine (goes _).mono ?_
      rintro e w5 ⟨rfl, hb5⟩
      have HB5 := Lib.hid (HB3.out.via hb5)
      clear hb5
      go_wp2
      go_ret
      exact ⟨rfl, HB5.out⟩
    · by_cases hb3 : 300 < no
      · clear hr hR hn hF hk hm hro hno hcom hrw hnn hcnm
        go_enter Try.func3, Try.ntmps3
        go_wp2_with fail
        refine (fldNewA _).mono ?_
        rintro e w1 ⟨rfl, hf, hz, hb0⟩
        have hb1 := hb0 w.heap.size w (Nat.le_refl _) (Below.refl _ _)
        clear hb0 hz
        go_wp2_with fail
        refine (HN.out w1 hf).mono ?_
        rintro e w2 ⟨g, A1, c1, rfl, hg, hC, hs2⟩
        have HB2 := Lib.hid (hs2.below hb1 (Nat.le_refl _) hb1.size)
        have HC2 := Lib.hid hC
        clear hs2 hb1 hg hC hf
        go_wp2_with fail
        refine (HMAY.out _).mono ?_
        rintro e w3 ⟨rfl, rfl⟩
        have HB3 := Lib.hid HB2.out
        go_wp2_with fail
        refine (goes _).mono ?_
        rintro e w5 ⟨rfl, hb5⟩
        have HB5 := Lib.hid (HB3.out.via hb5)
        clear hb5
        go_wp2
        go_ret
        exact ⟨rfl, HB5.out⟩
      · by_cases hb4 : 300 < nn
        · clear hr hR hn hF hk hm hro hno hcom hrw hnn hcnm
          go_enter Try.func3, Try.ntmps3
          go_wp2_with fail
          refine (fldNewA _).mono ?_
          rintro e w1 ⟨rfl, hf, hz, hb0⟩
          have hb1 := hb0 w.heap.size w (Nat.le_refl _) (Below.refl _ _)
          clear hb0 hz
          go_wp2_with fail
          refine (HN.out w1 hf).mono ?_
          rintro e w2 ⟨g, A1, c1, rfl, hg, hC, hs2⟩
          have HB2 := Lib.hid (hs2.below hb1 (Nat.le_refl _) hb1.size)
          have HC2 := Lib.hid hC
          clear hs2 hb1 hg hC hf
          go_wp2_with fail
          refine (HMAY.out _).mono ?_
          rintro e w3 ⟨rfl, rfl⟩
          have HB3 := Lib.hid HB2.out
          go_wp2_with fail
          refine (goes _).mono ?_
          rintro e w5 ⟨rfl, hb5⟩
          have HB5 := Lib.hid (HB3.out.via hb5)
          clear hb5
          go_wp2
          go_ret
          exact ⟨rfl, HB5.out⟩
        · rcases F with _ | _
          · clear hr hR hn hF hk hm hro hno hcom hrw hnn hcnm
            go_enter Try.func3, Try.ntmps3
            go_wp2_with fail
            refine (fldNewA _).mono ?_
            rintro e w1 ⟨rfl, hf, hz, hb0⟩
            have hb1 := hb0 w.heap.size w (Nat.le_refl _) (Below.refl _ _)
            clear hb0 hz
            go_wp2_with fail
            refine (HN.out w1 hf).mono ?_
            rintro e w2 ⟨g, A1, c1, rfl, hg, hC, hs2⟩
            have HB2 := Lib.hid (hs2.below hb1 (Nat.le_refl _) hb1.size)
            have HC2 := Lib.hid hC
            clear hs2 hb1 hg hC hf
            go_wp2_with fail
            refine (HMAY.out _).mono ?_
            rintro e w3 ⟨rfl, rfl⟩
            have HB3 := Lib.hid HB2.out
            go_wp2_with fail
            refine (HFEW.out _ HB3.out).mono ?_
            rintro e w4 ⟨rfl, rfl⟩
            have HB3 := Lib.hid HB3.out
            go_wp2_with fail
            refine (goes _).mono ?_
            rintro e w5 ⟨rfl, hb5⟩
            have HB5 := Lib.hid (HB3.out.via hb5)
            clear hb5
            go_wp2
            go_ret
            exact ⟨rfl, HB5.out⟩
          · obtain ⟨hl1, hl2⟩ := fewB_true hF.out
            have hl1' : n ≤ 260 := by simpa [lns, hn] using hl1
            have hmr : ∀ r ∈ L, r.n ≤ 3000 := fun r hr => hl2 r.n (List.mem_map.2 ⟨r, hr, rfl⟩)
            have HR := Lib.hid hr
            have HRR := Lib.hid hR
            have HLN := Lib.hid hn
            have HMR := Lib.hid hmr
            have HRO := Lib.hid hro
            have HNO := Lib.hid hno
            have HRW := Lib.hid hrw
            have HNN := Lib.hid hnn
            clear hl1 hl2 hmr
            clear hr hR hn hF hk hm hro hno hcom hrw hnn hcnm
            go_enter Try.func3, Try.ntmps3
            go_wp2_with fail
            refine (fldNewA _).mono ?_
            rintro e w1 ⟨rfl, hf, hz, hb0⟩
            have hb1 := hb0 w.heap.size w (Nat.le_refl _) (Below.refl _ _)
            clear hb0 hz
            go_wp2_with fail
            refine (HN.out w1 hf).mono ?_
            rintro e w2 ⟨g, A1, c1, rfl, hg, hC, hs2⟩
            have HB2 := Lib.hid (hs2.below hb1 (Nat.le_refl _) hb1.size)
            have HC2 := Lib.hid hC
            clear hs2 hb1 hg hC hf
            go_wp2_with fail
            refine (HMAY.out _).mono ?_
            rintro e w3 ⟨rfl, rfl⟩
            have HB3 := Lib.hid HB2.out
            go_wp2_with fail
            refine (HFEW.out _ HB3.out).mono ?_
            rintro e w4 ⟨rfl, rfl⟩
            have HB3 := Lib.hid HB3.out
            clear HFEW HN HMAY
            obtain ⟨D, err, hs1, hs2⟩ := spreadSame k m j no co old hs HNO.out (by omega)
            obtain ⟨U, eru, hu1, hu2⟩ := updateSame k m j no co nn cn old now hs HNO.out HNN.out (by omega) (by omega) L n c HLN.out hl1' HMR.out
            have HS1 := Lib.hid hs1
            have HS2 := Lib.hid hs2
            have HU1 := Lib.hid hu1
            have HU2 := Lib.hid hu2
            clear hs1 hs2 hu1 hu2
            go_wp2_with fail
            refine (HS1.out _ w.heap.size Ao g w.heap.size c1 A1 HC2.out (HRO.out.below HB3.out) HB3.out.size).mono ?_
            rintro e w5 ⟨A5, n5, c5, L5, rfl, hL5, hn5, hnc5, hcm5, hp5, hq5, hb5⟩
            have HB5 := Lib.hid (HB3.out.via hb5)
            have HC5 := Lib.hid (HC2.out.below hb5)
            have HP5 := Lib.hid hp5
            have HQ5 := Lib.hid hq5
            have HL5 := Lib.hid hL5
            have HN5 := Lib.hid hn5
            have HX5 := Lib.hid (Nat.le_trans hnc5 hcm5)
            clear hL5 hn5 hnc5 hcm5 hp5 hq5 hb5 HC2 HB2 HB3 HS1
            go_wp2_with fail
            refine (HS2.out _ w.heap.size Ao (HRO.out.below HB5.out) HB5.out.size).mono ?_
            rintro e w6 ⟨A6, n6, c6, L6, rfl, hL6, hn6, hnc6, hcm6, hp6, hq6, hb6⟩
            have HB6 := Lib.hid (HB5.out.via hb6)
            have HC6 := Lib.hid (HC5.out.below hb6)
            have HP5 := Lib.hid ((HP5.out.below hb6).more hb6.size)
            have HQ5 : Hid (RowsAt w6 w6.heap.size L5) := fun r hr => ((HQ5.out r hr).below hb6).more hb6.size
            have HP6 := Lib.hid hp6
            have HQ6 := Lib.hid hq6
            have HL6 := Lib.hid hL6
            have HN6 := Lib.hid hn6
            have HX6 := Lib.hid (Nat.le_trans hnc6 hcm6)
            clear hL6 hn6 hnc6 hcm6 hp6 hq6 hb6 HC5 HB5 HS2
            go_wp2_with fail
            refine (HU1.out _ w.heap.size Ao An A g w.heap.size c1 A1 HC6.out (HRO.out.below HB6.out) (HRW.out.below HB6.out) (HR.out.below HB6.out) (fun r hr => (HRR.out r hr).below HB6.out) HB6.out.size).mono ?_
            rintro e w7 ⟨A7, n7, c7, L7, rfl, hL7, hn7, hnc7, hcm7, hp7, hq7, hb7⟩
            have HB7 := Lib.hid (HB6.out.via hb7)
            have HP5 := Lib.hid ((HP5.out.below hb7).more hb7.size)
            have HQ5 : Hid (RowsAt w7 w7.heap.size L5) := fun r hr => ((HQ5.out r hr).below hb7).more hb7.size
            have HP6 := Lib.hid ((HP6.out.below hb7).more hb7.size)
            have HQ6 : Hid (RowsAt w7 w7.heap.size L6) := fun r hr => ((HQ6.out r hr).below hb7).more hb7.size
            have HP7 := Lib.hid hp7
            have HQ7 := Lib.hid hq7
            have HL7 := Lib.hid hL7
            have HN7 := Lib.hid hn7
            have HX7 := Lib.hid (Nat.le_trans hnc7 hcm7)
            clear hL7 hn7 hnc7 hcm7 hp7 hq7 hb7 HC6 HB6 HU1
            go_wp2_with fail
            refine (HU2.out _ w.heap.size Ao An A (HRO.out.below HB7.out) (HRW.out.below HB7.out) (HR.out.below HB7.out) (fun r hr => (HRR.out r hr).below HB7.out) HB7.out.size).mono ?_
            rintro e w8 ⟨A8, n8, c8, L8, rfl, hL8, hn8, hnc8, hcm8, hp8, hq8, hb8⟩
            have HB8 := Lib.hid (HB7.out.via hb8)
            have HP5 := Lib.hid ((HP5.out.below hb8).more hb8.size)
            have HQ5 : Hid (RowsAt w8 w8.heap.size L5) := fun r hr => ((HQ5.out r hr).below hb8).more hb8.size
            have HP6 := Lib.hid ((HP6.out.below hb8).more hb8.size)
            have HQ6 : Hid (RowsAt w8 w8.heap.size L6) := fun r hr => ((HQ6.out r hr).below hb8).more hb8.size
            have HP7 := Lib.hid ((HP7.out.below hb8).more hb8.size)
            have HQ7 : Hid (RowsAt w8 w8.heap.size L7) := fun r hr => ((HQ7.out r hr).below hb8).more hb8.size
            have HP8 := Lib.hid hp8
            have HQ8 := Lib.hid hq8
            have HL8 := Lib.hid hL8
            have HN8 := Lib.hid hn8
            have HX8 := Lib.hid (Nat.le_trans hnc8 hcm8)
            clear hL8 hn8 hnc8 hcm8 hp8 hq8 hb8 HB7 HU2
            go_wp2_with fail
            refine (refSame5 L5 L6 w8.heap.size A5 A6 n5 c5 n6 c6 w8 HP5.out HQ5.out HP6.out HQ6.out HN5.out HN6.out (Nat.le_refl _) HX5.out HX6.out).mono ?_
            rintro e w9 ⟨⟨x, rfl, hx⟩, hb9⟩
            obtain rfl : x = true := hx.2 (HL5.out.trans HL6.out.symm)
            have HB9 := Lib.hid (HB8.out.via hb9)
            have HS9 := Lib.hid (refSame5 L7 L8 w8.heap.size A7 A8 n7 c7 n8 c8 w9 (HP7.out.below hb9) (fun r hr => (HQ7.out r hr).below hb9) (HP8.out.below hb9) (fun r hr => (HQ8.out r hr).below hb9) HN7.out HN8.out hb9.size HX7.out HX8.out)
            clear hx hb9 HB8 HP5 HQ5 HP6 HQ6 HP7 HQ7 HP8 HQ8
            go_wp2_with fail
            refine HS9.out.mono ?_
            rintro e w10 ⟨⟨y, rfl, hy⟩, hb10⟩
            obtain rfl : y = true := hy.2 (HL7.out.trans HL8.out.symm)
            have HB10 := Lib.hid (HB9.out.via hb10)
            clear hy hb10 HS9
            go_wp2_with fail
            refine (goes _).mono ?_
            rintro e w11 ⟨rfl, hb11⟩
            have HB11 := Lib.hid (HB10.out.via hb11)
            clear hb11
            go_wp2
            go_ret
            exact ⟨rfl, HB11.out⟩
  · rw [mayB_false.2 hmay] at HMAY
    have HN0 := Lib.hid (fun p V => cdNew0 p k m hmay hk hm V)
    clear hmay hr hR hn hF HFEW hro hno hrw hnn
    go_enter Try.func3, Try.ntmps3
    go_wp2_with fail
    refine (fldNewA _).mono ?_
    rintro e w1 ⟨rfl, hf, hz, hb0⟩
    have HB1 := Lib.hid (hb0 w.heap.size w (Nat.le_refl _) (Below.refl _ _))
    clear hb0 hz hf
    go_wp2_with fail
    refine (HN0.out _ _).mono ?_
    rintro e w2 ⟨rfl, rfl⟩
    go_wp2_with fail
    refine (HMAY.out _).mono ?_
    rintro e w3 ⟨rfl, rfl⟩
    go_wp2_with fail
    refine (goes _).mono ?_
    rintro e w4 ⟨rfl, hb4⟩
    have HB4 := Lib.hid (HB1.out.via hb4)
    clear hb4
    go_wp2
    go_ret
    exact ⟨rfl, HB4.out⟩
end Cib
