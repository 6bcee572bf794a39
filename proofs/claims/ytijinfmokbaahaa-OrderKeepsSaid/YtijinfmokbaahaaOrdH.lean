/- Order: the heap sort. Printed by genS.py. -/
import Derived.Test.YtijinfmokbaahaaOrdV
set_option linter.unusedVariables false
set_option linter.unusedSimpArgs false
set_option maxRecDepth 20000
namespace Cib
open Go Go.RowKit Go.Proofs
theorem sift_size0 {lt : Sn → Sn → Bool} : ∀ (m hi F r : Nat) (d : Array Sn), hi - r ≤ m → (Go.Sort.siftDown lt hi F r d).size = d.size := by
  intro m
  induction m with
  | zero =>
    intro hi F r d h
    rw [Go.Sort.siftDown, dif_pos (by omega)]
  | succ m ih =>
    intro hi F r d h
    rw [Go.Sort.siftDown]
    repeat' split
    all_goals first | rfl | (rw [ih _ _ _ _ (by omega), Go.Sort.size_swp])
theorem sift_size {lt : Sn → Sn → Bool} {hi F r : Nat} {d : Array Sn} : (Go.Sort.siftDown lt hi F r d).size = d.size := sift_size0 _ _ _ _ _ (Nat.le_refl _)
set_option maxHeartbeats 4000000 in
theorem ordHeap (g n c a b B : Nat) (d : Array Sn) (w : World) (h : Lies w g d) (hn : d.size = n) (hg : B ≤ g) (hab : a + 12 < b) (hb : b ≤ n) (hs : n ≤ 45) : Calls Try.prog 45 #[.slice (some ⟨g, 0, none⟩) n c, .int .i64 a, .int .i64 b, cmpV] w fun e w' =>
    e = .returned (.tuple #[]) ∧ Lies w' g (Go.Sort.heapSort ltS d a b) ∧ Below B w w' := by
  have ST := Lib.hid (fun (lo hi : Nat) (d : Array Sn) (w : World) h hn hlo hhi => ordSift g n c lo hi a B d w h hn hg hlo hhi hs)
  have HH := Lib.hid h
  have HN := Lib.hid hn
  clear h hn
  obtain ⟨l, hl⟩ : ∃ l : Nat, l = b - a := ⟨_, rfl⟩
  obtain ⟨r, hr⟩ : ∃ r : Nat, r = (l - 1) / 2 := ⟨_, rfl⟩
  have hd : (b : Int) - (a : Int) = (l : Int) := by omega
  have hq : ((l : Int) - 1) / 2 = (r : Int) := by omega
  have wl : IntKind.i64.wrap ((l : Int) - 1) = (l : Int) - 1 := by rw [IntKind.wrap_i64]; omega
  have hrl : r < l := by omega
  have hl40 : l ≤ 45 := by omega
  have hl13 : 1 ≤ l := by omega
  have hal : a + l ≤ n := by omega
  have HLR := Lib.hid (And.intro hl hr)
  clear hl hr
  unfold cmpV at *
  go_enter Try.func45, Try.ntmps45
  go_wp2
  clear hd hq wl
  go_loopw [11] (fun vi wr => ∃ (k : Nat) (dk : Array Sn), vi = .int .i64 ((k : Int) - 1) ∧ k ≤ r + 1 ∧ Hid (dk.size = n) ∧ Hid (Lies wr g dk) ∧ Hid (Below B w wr) ∧ Hid (Go.Sort.heapBuild ltS l a k dk = Go.Sort.heapBuild ltS l a (r + 1) d)) (fun vi _ => (Go.RowKit.intOf vi + 1).toNat)
  case atStart => exact ⟨r + 1, d, by have hr := HLR.out.2; go_num, Nat.le_refl _, HN, HH, Lib.hid (Below.refl _ _), rfl⟩
  case round =>
    clear HH HN
    obtain ⟨k, dk, rfl, hk, HZ, HL, HB, HO⟩ := hrel
    rcases Nat.eq_zero_or_pos k with h0 | h0
    · subst h0
      have hbuilt : dk = Go.Sort.heapBuild ltS l a (r + 1) d := HO.out
      have HBU := Lib.hid hbuilt
      clear hbuilt HO hk
      rw [show ((0 : Nat) : Int) - 1 = -1 from rfl]
      go_wp2
      go_loopw [12] (fun vi wr => ∃ (k : Nat) (dj : Array Sn), vi = .int .i64 ((k : Int) - 1) ∧ k ≤ l ∧ Hid (dj.size = n) ∧ Hid (Lies wr g dj) ∧ Hid (Below B w wr) ∧ Hid (Go.Sort.heapPop ltS a k dj = Go.Sort.heapPop ltS a l dk)) (fun vi _ => (Go.RowKit.intOf vi + 1).toNat)
      case atStart => exact ⟨l, dk, by go_num, Nat.le_refl _, HZ, HL, HB, rfl⟩
      case round =>
        clear HL HB HZ
        obtain ⟨k, dj, rfl, hk, HZ, HL, HB, HO⟩ := hrel
        rcases Nat.eq_zero_or_pos k with h0 | h0
        · subst h0
          go_wp2
          first | go_end0 | refine bodyPost_ret (results_none rfl _ _ _) rfl ?_
          refine ⟨rfl, ?_, HB.out⟩
          have e : dj = Go.Sort.heapPop ltS a l dk := HO.out
          unfold Go.Sort.heapSort
          rw [← HLR.out.1, ← HLR.out.2, ← HBU.out, ← e]
          exact HL.out
        · obtain ⟨i, rfl⟩ : ∃ i, k = i + 1 := ⟨k - 1, by omega⟩
          have hi0 : ((i + 1 : Nat) : Int) - 1 = (i : Int) := by omega
          rw [hi0]
          obtain ⟨X, hX⟩ : ∃ X : Nat, X = a + i := ⟨_, rfl⟩
          have hXz : (a : Int) + (i : Int) = (X : Int) := by omega
          have hXn : (X : Int) < (n : Int) := by omega
          have han : (a : Int) < (n : Int) := by omega
          have hwX : IntKind.i64.wrap (X : Int) = (X : Int) := by rw [IntKind.wrap_i64]; omega
          have hwi : IntKind.i64.wrap ((i : Int) - 1) = (i : Int) - 1 := by rw [IntKind.wrap_i64]; omega
          have hXN : X < n := by omega
          obtain ⟨pS, hpS⟩ : ∃ x, x = dj[a]! := ⟨_, rfl⟩
          obtain ⟨qS, hqS⟩ : ∃ x, x = dj[X]! := ⟨_, rfl⟩
          have hSS := HL.out.swap (i := a) (j := X) (by have := HZ.out; omega) (by have := HZ.out; omega)
          rw [← hpS, ← hqS] at hSS
          have HSS := Lib.hid hSS
          have HTS := Lib.hid (below4 HB.out hg ((a) * 2) ((a) * 2 + 1) ((X) * 2) ((X) * 2 + 1) (.string qS.1) (.string qS.2) (.string pS.1) (.string pS.2))
          have l0S := HL.out.at0 (i := a) (by have := HZ.out; omega) hpS
          have l1S := HL.out.at1 (i := a) (by have := HZ.out; omega) hpS
          have l2S := HL.out.at0 (i := X) (by have := HZ.out; omega) hqS
          have l3S := HL.out.at1 (i := X) (by have := HZ.out; omega) hqS
          have f0S := HL.out.fr ((a) * 2)
          have f1S := HL.out.fr ((a) * 2 + 1)
          have f2S := HL.out.fr ((X) * 2)
          have f3S := HL.out.fr ((X) * 2 + 1)
          obtain ⟨v2S, m2S⟩ := HL.out.ex ((X) * 2) ((a) * 2) (.string qS.1) (by have hjz : X < dj.size := (by have := HZ.out; omega); omega)
          obtain ⟨v3S, m3S⟩ := HL.out.ex2 ((X) * 2 + 1) ((a) * 2) ((a) * 2 + 1) (.string qS.1) (.string qS.2) (by have hjz : X < dj.size := (by have := HZ.out; omega); omega)
          clear hpS hqS hSS

          have HS2 := Lib.hid (ST.out 0 i (Go.Sort.swp dj a X) _ (HSS.out.drewN 1) (by rw [Go.Sort.size_swp]; exact HZ.out) (Nat.zero_le _) (by omega))
          have GO : Hid (Go.Sort.heapPop ltS a i (Go.Sort.siftDown ltS i a 0 (Go.Sort.swp dj a X)) = Go.Sort.heapPop ltS a l dk) := Lib.hid (by rw [hX]; exact HO.out)
          have HZ2 : Hid ((Go.Sort.swp dj a X).size = n) := Lib.hid (by rw [Go.Sort.size_swp]; exact HZ.out)
          have HTT := Lib.hid (below_drewN HTS.out 1)
          clear hX hi0
          go_wp2
          go_region
          all_goals (try go_wp2_with (go_at_call 55; refine HS2.out.mono ?_; rintro e w2 ⟨rfl, L2, B2⟩))
          go_roundw
          case rel => exact ⟨i, _, rfl, by omega, Lib.hid (by rw [sift_size]; exact HZ2.out), Lib.hid L2, Lib.hid (HTT.out.trans B2), GO⟩
          case measure => simp [Go.RowKit.intOf]
    · obtain ⟨i, rfl⟩ : ∃ i, k = i + 1 := ⟨k - 1, by omega⟩
      have hi0 : ((i + 1 : Nat) : Int) - 1 = (i : Int) := by omega
      rw [hi0]
      have hwi : IntKind.i64.wrap ((i : Int) - 1) = (i : Int) - 1 := by rw [IntKind.wrap_i64]; omega
      have HS2 := Lib.hid (ST.out i l dk _ HL.out HZ.out (by omega) (by omega))
      clear hi0
      go_wp2_with (go_at_call 55; refine HS2.out.mono ?_; rintro e w2 ⟨rfl, L2, B2⟩)
      go_roundw
      case rel => exact ⟨i, _, rfl, by omega, Lib.hid (by rw [sift_size]; exact HZ.out), Lib.hid L2, Lib.hid (HB.out.trans B2), Lib.hid HO.out⟩
      case measure => simp [Go.RowKit.intOf]
end Cib
