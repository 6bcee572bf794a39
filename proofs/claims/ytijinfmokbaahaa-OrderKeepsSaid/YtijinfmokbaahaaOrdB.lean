/- Order: the breaking of patterns: some permutation. -/
import Derived.Test.YtijinfmokbaahaaOrdX
import Derived.Test.YtijinfmokbaahaaOrdY
set_option linter.unusedVariables false
set_option linter.unusedSimpArgs false
set_option maxRecDepth 20000
namespace Cib
open Go Go.RowKit Go.Proofs
theorem andN (R m : Nat) (hR : R < 18446744073709551616) (hm : m < 18446744073709551616) : ∃ N : Nat, N ≤ m ∧ bits .and .u64 (R : Int) (m : Int) = (N : Int) := ⟨R &&& m, Nat.and_le_right, bits_and_u64_nat R m hR hm⟩
theorem far4 {q g : Nat} {T : TypeId} {cs : Array Value} {w : World} (h : Blk w q T cs) (hq : q ≠ g) (x y z t : Nat) (u1 u2 u3 u4 : Value) : Blk ((((w.setCell ⟨g, x, none⟩ u1).setCell ⟨g, y, none⟩ u2).setCell ⟨g, z, none⟩ u3).setCell ⟨g, t, none⟩ u4) q T cs :=
  (((h.far (p := ⟨g, x, none⟩) hq _).far (p := ⟨g, y, none⟩) hq _).far (p := ⟨g, z, none⟩) hq _).far (p := ⟨g, t, none⟩) hq _
set_option maxHeartbeats 2000000 in
theorem ordBreak (g n c a b B : Nat) (d : Array Sn) (w : World) (h : Lies w g d) (hn : d.size = n) (hg : B ≤ g) (hab : a + 12 < b) (hb : b ≤ n) (hs : n ≤ 45) : Calls Try.prog 46 #[.slice (some ⟨g, 0, none⟩) n c, .int .i64 a, .int .i64 b, cmpV] w fun e w' =>
    e = .returned (.tuple #[]) ∧ ∃ d', Go.Sort.PermIn a b d d' ∧ Lies w' g d' ∧ Below B w w' := by
  obtain ⟨l, hl⟩ : ∃ l : Nat, l = b - a := ⟨_, rfl⟩
  obtain ⟨r, hr⟩ : ∃ r : Nat, r = l / 4 := ⟨_, rfl⟩
  have hgw := h.lt
  have hBw : B ≤ w.heap.size := by omega
  have HH := Lib.hid h
  have HN := Lib.hid hn
  have hd : (b : Int) - (a : Int) = (l : Int) := by omega
  have hq : (l : Int) / 4 = (r : Int) := by omega
  have w1 : IntKind.u64.wrap ((l : Int)) = (l : Int) := by rw [IntKind.wrap_u64]; omega
  have l8 : (8 : Int) ≤ (l : Int) := by omega
  have hN := Lib.hid (fun W => nPowN l (by omega) (by omega) W)
  have HLR := Lib.hid (And.intro hl hr)
  obtain ⟨I0, hI0⟩ : ∃ I : Nat, I = a + r * 2 - 1 := ⟨_, rfl⟩
  have h1 : 1 ≤ I0 ∧ a ≤ I0 ∧ I0 + 3 ≤ b := by omega
  have e1 : (a : Int) + (r : Int) * 2 - 1 = (I0 : Int) := by omega
  have e2 : (a : Int) + (r : Int) * 2 + 1 = (I0 : Int) + 2 := by omega
  have hl40 : l ≤ 45 := by omega
  have h12 : 12 < l := by omega
  have hal : a + l = b := by omega
  clear h hn hl hr hI0
  unfold cmpV
  go_enter Try.func46, Try.ntmps46
  go_wp2_with (go_at_call 56; refine (hN.out _).mono ?_; rintro e w2 ⟨⟨m, rfl, hm1, hm2⟩, rfl⟩)
  have hm80 : m ≤ 90 := by omega
  obtain ⟨M1, hM1⟩ : ∃ M : Nat, M = m - 1 := ⟨_, rfl⟩
  have wm : IntKind.u64.wrap ((m : Int) - 1) = (M1 : Int) := by rw [IntKind.wrap_u64]; omega
  have hM2 : M1 < 2 * l := by omega
  clear hM1 hm1 hm2
  go_loopw [11, 12] (fun vi _ wr => ∃ (i R : Nat) (dk : Array Sn), vi = .int .i64 i ∧ I0 ≤ i ∧ i ≤ I0 + 3 ∧ R < 18446744073709551616 ∧ Hid (Go.Sort.PermIn a b d dk) ∧ Hid (Lies wr g dk) ∧ Hid (Blk wr w.heap.size 73 #[.int .u64 R]) ∧ Hid (Below B w wr)) (fun vi _ _ => I0 + 3 - (Go.RowKit.intOf vi).toNat)
  case atStart =>
    refine ⟨I0, l, d, rfl, Nat.le_refl _, by omega, by omega, Lib.hid (Go.Sort.permIn_refl _ _ _), ?_, ?_, ?_⟩
    · exact Lib.hid (HH.out.below ((Below.refl _ _).alloc (Nat.le_refl _) _) hgw)
    · exact Lib.hid (Blk.new _ _ _)
    · exact Lib.hid ((Below.refl _ _).alloc hBw _)
  case round =>
    obtain ⟨i, R, dk, rfl, hi0, hi3, hR, HP, HL, HQ, HB⟩ := hrel
    by_cases hlt : i ≤ I0 + 2
    · have hz : (i : Int) ≤ (I0 : Int) + 2 := by omega
      have HX := Lib.hid (ordXor g w.heap.size R B dk wr hR HL.out HQ.out (by omega) hBw)
      clear HL HQ
      go_wp2_with (go_at_call 57; go_loud (refine HX.out.mono ?_; rintro e w3 ⟨R2, rfl, hR2, L3, Q3, B3⟩; obtain ⟨O, hO, eO⟩ := andN R2 M1 hR2 (by omega); have wO : IntKind.i64.wrap (O : Int) = (O : Int) := (by rw [IntKind.wrap_i64]; omega); have HL := Lib.hid L3; have HQ := Lib.hid Q3; have HB3 := Lib.hid (HB.out.trans B3); clear L3 Q3 B3 HX))
      · rename_i hOl
        obtain ⟨P, hP⟩ : ∃ P : Nat, P = O - l := ⟨_, rfl⟩
        have hP1 : (O : Int) - (l : Int) = (P : Int) := by omega
        have hP2 : ((O - l : Nat) : Int) = (P : Int) := by omega
        have hPl : P < l := by omega
        clear hP
        obtain ⟨X, hX⟩ : ∃ X : Nat, X = a + P := ⟨_, rfl⟩
        have hXz : (a : Int) + (P : Int) = (X : Int) := by omega
        have hXb : X < b := by omega
        have haX : a ≤ X := by omega
        have hXn : (X : Int) < (n : Int) := by omega
        have hin : (i : Int) < (n : Int) := by omega
        have hib : i < b := by omega
        have hai : a ≤ i := by omega
        have wX : IntKind.i64.wrap (X : Int) = (X : Int) := by rw [IntKind.wrap_i64]; omega
        have wP : IntKind.i64.wrap (P : Int) = (P : Int) := by rw [IntKind.wrap_i64]; omega
        clear hX
        obtain ⟨pS, hpS⟩ : ∃ x, x = dk[i]! := ⟨_, rfl⟩
        obtain ⟨qS, hqS⟩ : ∃ x, x = dk[X]! := ⟨_, rfl⟩
        have hSS := HL.out.swap (i := i) (j := X) (by have := HP.out.1; have := HN.out; omega) (by have := HP.out.1; have := HN.out; omega)
        rw [← hpS, ← hqS] at hSS
        have HSS := Lib.hid hSS
        have HTS := Lib.hid (below4 HB3.out hg ((i) * 2) ((i) * 2 + 1) ((X) * 2) ((X) * 2 + 1) (.string qS.1) (.string qS.2) (.string pS.1) (.string pS.2))
        have l0S := HL.out.at0 (i := i) (by have := HP.out.1; have := HN.out; omega) hpS
        have l1S := HL.out.at1 (i := i) (by have := HP.out.1; have := HN.out; omega) hpS
        have l2S := HL.out.at0 (i := X) (by have := HP.out.1; have := HN.out; omega) hqS
        have l3S := HL.out.at1 (i := X) (by have := HP.out.1; have := HN.out; omega) hqS
        have f0S := HL.out.fr ((i) * 2)
        have f1S := HL.out.fr ((i) * 2 + 1)
        have f2S := HL.out.fr ((X) * 2)
        have f3S := HL.out.fr ((X) * 2 + 1)
        obtain ⟨v2S, m2S⟩ := HL.out.ex ((X) * 2) ((i) * 2) (.string qS.1) (by have hjz : X < dk.size := (by have := HP.out.1; have := HN.out; omega); omega)
        obtain ⟨v3S, m3S⟩ := HL.out.ex2 ((X) * 2 + 1) ((i) * 2) ((i) * 2 + 1) (.string qS.1) (.string qS.2) (by have hjz : X < dk.size := (by have := HP.out.1; have := HN.out; omega); omega)
        clear hpS hqS hSS
        have HP2 := Lib.hid (perm_swp HP.out (by have := HN.out; omega) hai hib haX hXb)
        have HQ4 := Lib.hid (far4 HQ.out (show w.heap.size ≠ g by omega) (i * 2) (i * 2 + 1) (X * 2) (X * 2 + 1) (.string qS.1) (.string qS.2) (.string pS.1) (.string pS.2))
        go_region
        all_goals (try go_wp2)
        go_roundw
        case rel => exact ⟨i + 1, R2, _, by go_num, by omega, by omega, hR2, HP2, Lib.hid (HSS.out.drewN 1), Lib.hid (HQ4.out.drewN 1), Lib.hid (below_drewN HTS.out 1)⟩
        case measure => first | (simp [Go.RowKit.intOf]; done) | (simp [Go.RowKit.intOf]; omega)
      · rename_i hOl
        obtain ⟨P, hP⟩ : ∃ P : Nat, P = O := ⟨_, rfl⟩
        subst hP
        have hPl : P < l := by omega
        obtain ⟨X, hX⟩ : ∃ X : Nat, X = a + P := ⟨_, rfl⟩
        have hXz : (a : Int) + (P : Int) = (X : Int) := by omega
        have hXb : X < b := by omega
        have haX : a ≤ X := by omega
        have hXn : (X : Int) < (n : Int) := by omega
        have hin : (i : Int) < (n : Int) := by omega
        have hib : i < b := by omega
        have hai : a ≤ i := by omega
        have wX : IntKind.i64.wrap (X : Int) = (X : Int) := by rw [IntKind.wrap_i64]; omega
        have wP : IntKind.i64.wrap (P : Int) = (P : Int) := by rw [IntKind.wrap_i64]; omega
        clear hX
        obtain ⟨pS, hpS⟩ : ∃ x, x = dk[i]! := ⟨_, rfl⟩
        obtain ⟨qS, hqS⟩ : ∃ x, x = dk[X]! := ⟨_, rfl⟩
        have hSS := HL.out.swap (i := i) (j := X) (by have := HP.out.1; have := HN.out; omega) (by have := HP.out.1; have := HN.out; omega)
        rw [← hpS, ← hqS] at hSS
        have HSS := Lib.hid hSS
        have HTS := Lib.hid (below4 HB3.out hg ((i) * 2) ((i) * 2 + 1) ((X) * 2) ((X) * 2 + 1) (.string qS.1) (.string qS.2) (.string pS.1) (.string pS.2))
        have l0S := HL.out.at0 (i := i) (by have := HP.out.1; have := HN.out; omega) hpS
        have l1S := HL.out.at1 (i := i) (by have := HP.out.1; have := HN.out; omega) hpS
        have l2S := HL.out.at0 (i := X) (by have := HP.out.1; have := HN.out; omega) hqS
        have l3S := HL.out.at1 (i := X) (by have := HP.out.1; have := HN.out; omega) hqS
        have f0S := HL.out.fr ((i) * 2)
        have f1S := HL.out.fr ((i) * 2 + 1)
        have f2S := HL.out.fr ((X) * 2)
        have f3S := HL.out.fr ((X) * 2 + 1)
        obtain ⟨v2S, m2S⟩ := HL.out.ex ((X) * 2) ((i) * 2) (.string qS.1) (by have hjz : X < dk.size := (by have := HP.out.1; have := HN.out; omega); omega)
        obtain ⟨v3S, m3S⟩ := HL.out.ex2 ((X) * 2 + 1) ((i) * 2) ((i) * 2 + 1) (.string qS.1) (.string qS.2) (by have hjz : X < dk.size := (by have := HP.out.1; have := HN.out; omega); omega)
        clear hpS hqS hSS
        have HP2 := Lib.hid (perm_swp HP.out (by have := HN.out; omega) hai hib haX hXb)
        have HQ4 := Lib.hid (far4 HQ.out (show w.heap.size ≠ g by omega) (i * 2) (i * 2 + 1) (X * 2) (X * 2 + 1) (.string qS.1) (.string qS.2) (.string pS.1) (.string pS.2))
        go_region
        all_goals (try go_wp2)
        go_roundw
        case rel => exact ⟨i + 1, R2, _, by go_num, by omega, by omega, hR2, HP2, Lib.hid (HSS.out.drewN 1), Lib.hid (HQ4.out.drewN 1), Lib.hid (below_drewN HTS.out 1)⟩
        case measure => first | (simp [Go.RowKit.intOf]; done) | (simp [Go.RowKit.intOf]; omega)
    · have hz : ¬ (i : Int) ≤ (I0 : Int) + 2 := by omega
      go_wp2
      first | go_end0 | refine bodyPost_ret (results_none rfl _ _ _) rfl ?_
      exact ⟨rfl, dk, HP.out, HL.out, HB.out⟩
end Cib
