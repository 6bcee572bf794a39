/- What must come at any rate: codes. -/
import Derived.Test.YtoahkanaoapgpaaCodH
import Derived.Test.YtoahkanaoapgpaaMatN
set_option linter.unusedVariables false
set_option linter.unusedSimpArgs false
set_option maxRecDepth 40000
namespace Cib
open Go Go.RowKit Go.Proofs
theorem cdNewNil (k m : Nat) (hk : 1 ≤ k) (hm : 1 ≤ m) (hs : k + m ≤ 255) (w : World) : Calls Try.prog 8 #[.pointer none, .int .i64 (k : Int), .int .i64 (m : Int)] w fun e w' => e = .returned (.pointer none) ∧ Below w.heap.size w w' := by
  have HR1 := Lib.hid (fun W => cdRising k (k + m) (by omega) (by omega) W)
  have HR2 := Lib.hid (fun W => cdRising 0 k (by omega) (by omega) W)
  rw [show ((k + m : Nat) : Int) = (k : Int) + m from by omega] at HR1
  go_enter Try.func8, Try.ntmps8
  go_wp2_with fail
  refine (HR1.out _).mono ?_
  rintro e w1 ⟨A1, n1, c1, rfl, hn1, ho1, hb1⟩
  clear ho1 hn1
  go_wp2_with fail
  refine (HR2.out _).mono ?_
  rintro e w2 ⟨A2, n2, c2, rfl, hn2, ho2, hb2⟩
  clear ho2 hn2
  have HB := Lib.hid (hb1.via hb2)
  have HC := Lib.hid (nilCauchy A1 A2 n1 c1 n2 c2 w2)
  clear hb1 hb2
  go_wp2_with fail
  refine HC.out.mono ?_
  rintro e w3 ⟨rfl, hb3⟩
  have HB3 := Lib.hid (HB.out.via hb3)
  clear hb3 HC
  unfold mv
  go_wp2
  go_ret
  exact ⟨rfl, HB3.out.via ((Below.refl _ _).alloc (Nat.le_refl _) _)⟩
theorem one_row {L : List RowB} {D : List UInt8} (h : L.map (·.bs) = [D]) : ∃ r, L = [r] ∧ r.bs = D := by
  rcases L with _ | ⟨r, _ | ⟨s, l⟩⟩
  · simp at h
  · simp at h
    exact ⟨r, rfl, h⟩
  · simp at h
/-- One row that the program writes out. -/
theorem lit1 (w : World) (cs : Array Value) (bs : List UInt8) (n : Nat) (h : cs.toList = bs.map bv) (hn : bs.length = n) (hm : n ≤ maxLen) :
    Rd ((w.alloc (.cells cs 5)).alloc (.cells #[.slice (some ⟨w.heap.size, 0, none⟩) n n] 38)) (w.heap.size + 1 + 1) (some ⟨w.heap.size + 1, 0, none⟩) ([(⟨some ⟨w.heap.size, 0, none⟩, n, n, bs⟩ : RowB)].map RowB.v) ∧
    RowsAt ((w.alloc (.cells cs 5)).alloc (.cells #[.slice (some ⟨w.heap.size, 0, none⟩) n n] 38)) (w.heap.size + 1 + 1) [⟨some ⟨w.heap.size, 0, none⟩, n, n, bs⟩] ∧
    Below w.heap.size w ((w.alloc (.cells cs 5)).alloc (.cells #[.slice (some ⟨w.heap.size, 0, none⟩) n n] 38)) := by
  refine ⟨?_, RowsAt.cons ⟨((Rd.new w cs 5 (0, 0) h).alloc (by simp) _).more (by simp), hn, Nat.le_refl _, hm⟩ RowsAt.nil, ((Below.refl _ _).alloc (Nat.le_refl _) _).alloc (by simp) _⟩
  have := Rd.new (w.alloc (.cells cs 5)) #[.slice (some ⟨w.heap.size, 0, none⟩) n n] 38 (0, 0) rfl
  rw [World.size_alloc] at this
  exact this
/-- Two rows that the program writes out. -/
theorem lit2 (w : World) (cs ds : Array Value) (bs es : List UInt8) (n m : Nat) (h : cs.toList = bs.map bv) (hn : bs.length = n) (hm : n ≤ maxLen) (h' : ds.toList = es.map bv) (hn' : es.length = m) (hm' : m ≤ maxLen) :
    Rd (((w.alloc (.cells cs 5)).alloc (.cells ds 5)).alloc (.cells #[.slice (some ⟨w.heap.size, 0, none⟩) n n, .slice (some ⟨w.heap.size + 1, 0, none⟩) m m] 38)) (w.heap.size + 1 + 1 + 1) (some ⟨w.heap.size + 1 + 1, 0, none⟩) ([(⟨some ⟨w.heap.size, 0, none⟩, n, n, bs⟩ : RowB), ⟨some ⟨w.heap.size + 1, 0, none⟩, m, m, es⟩].map RowB.v) ∧
    RowsAt (((w.alloc (.cells cs 5)).alloc (.cells ds 5)).alloc (.cells #[.slice (some ⟨w.heap.size, 0, none⟩) n n, .slice (some ⟨w.heap.size + 1, 0, none⟩) m m] 38)) (w.heap.size + 1 + 1 + 1) [⟨some ⟨w.heap.size, 0, none⟩, n, n, bs⟩, ⟨some ⟨w.heap.size + 1, 0, none⟩, m, m, es⟩] ∧
    Below w.heap.size w (((w.alloc (.cells cs 5)).alloc (.cells ds 5)).alloc (.cells #[.slice (some ⟨w.heap.size, 0, none⟩) n n, .slice (some ⟨w.heap.size + 1, 0, none⟩) m m] 38)) := by
  have h2 := Rd.new (w.alloc (.cells cs 5)) ds 5 (0, 0) h'
  rw [World.size_alloc] at h2
  have h3 := Rd.new ((w.alloc (.cells cs 5)).alloc (.cells ds 5)) #[.slice (some ⟨w.heap.size, 0, none⟩) n n, .slice (some ⟨w.heap.size + 1, 0, none⟩) m m] 38 (0, 0) rfl
  rw [World.size_alloc, World.size_alloc] at h3
  refine ⟨h3, RowsAt.cons ⟨(((Rd.new w cs 5 (0, 0) h).alloc (by simp) _).alloc (by simp) _).more (by omega), hn, Nat.le_refl _, hm⟩ (RowsAt.cons ⟨(h2.alloc (by simp) _).more (by omega), hn', Nat.le_refl _, hm'⟩ RowsAt.nil), (((Below.refl _ _).alloc (Nat.le_refl _) _).alloc (by simp) _).alloc (by simp; omega) _⟩
set_option maxHeartbeats 3200000 in
theorem codes (w : World) : Calls Try.prog 12 #[] w fun e w' => e = .returned (.bool true) ∧ Below w.heap.size w w' := by
  go_enter Try.func12, Try.ntmps12
  go_wp2_with fail
  refine (fldNewA _).mono ?_
  rintro e w1 ⟨rfl, hf, hz, hb0⟩
  have hb1 := hb0 w.heap.size w (Nat.le_refl _) (Below.refl _ _)
  have HZ := Lib.hid hz
  have HN1 := Lib.hid (cdNew w.heap.size 1 1 (by decide) (by decide) (by decide) w1 hf)
  clear hb0 hz hf
  go_wp2_with fail
  refine HN1.out.mono ?_
  rintro e w2 ⟨g2, A2, c2, rfl, hg2, hC2, hs2⟩
  have HB2 := Lib.hid (hs2.below hb1 (Nat.le_refl _) hb1.size)
  have HC2 := Lib.hid hC2
  clear hs2 HN1 hb1 hg2 hC2 HZ
  obtain ⟨hr, hR, hal⟩ := lit1 w2 #[.int .u8 7, .int .u8 9] [7, 9] 2 rfl rfl (by decide)
  have HE1 := Lib.hid (cdEncode (HC2.out.below hal) _ _ (some ⟨w2.heap.size + 1, 0, none⟩) 1 hr hR (by simp) rfl rfl (by intro r hr; rw [List.mem_singleton] at hr; subst hr; show 2 ≤ 1000000000; decide))
  have hD1 : Hid (Cod.pars 1 (bss [(⟨some ⟨w2.heap.size, 0, none⟩, 2, 2, [7, 9]⟩ : RowB)]) 1 = [[7, 9]]) := by show Cod.pars 1 [[7, 9]] 1 = [[7, 9]]; decide +kernel
  rw [hD1.out] at HE1
  have HAL := Lib.hid hal
  clear hal hr hR hD1
  go_wp2_with fail
  refine HE1.out.mono ?_
  rintro e w3 ⟨A3, n3, c3, L3, rfl, hL3, hn3, ho3, hR3, hb3⟩
  have HB23 := Lib.hid (HAL.out.via hb3)
  have HB3 := Lib.hid (HB2.out.trans (HB23.out.mono HB2.out.size))
  have HC3 := Lib.hid (HC2.out.below HB23.out)
  obtain ⟨⟨rA3, rn3, rc3, rb3⟩, rfl, hrb⟩ := one_row hL3
  simp only at hrb
  subst hrb
  obtain rfl : n3 = 1 := hn3.symm
  have HP3 := Lib.hid (Rd.of_own ho3)
  have HQ3 := Lib.hid (hR3.at.get (k := 0) (by show 0 < 1; decide))
  obtain rfl : rn3 = 2 := HQ3.out.len.symm
  have HN2 := Lib.hid (cdNew w.heap.size 2 1 (by decide) (by decide) (by decide) w3 HC3.out.full.fld)
  clear HE1 HAL ho3 hR3 hb3 HB2 HB23
  go_wp2_with fail
  refine HN2.out.mono ?_
  rintro e w4 ⟨g4, A4, c4, rfl, hg4, hC4, hs4⟩
  have hb34 : Below w3.heap.size w3 w4 := hs4.bel HC3.out.full
  have HB4 := Lib.hid (HB3.out.via hb34)
  have HC24 := Lib.hid (HC3.out.below hb34)
  have HP4 := Lib.hid (HP3.out.below hb34)
  have HQ4 := Lib.hid (HQ3.out.below hb34)
  have HC4 := Lib.hid hC4
  have HZ34 := Lib.hid hb34.size
  clear hs4 HN2 hb34 hg4 hC4 HC2 HC3 HP3 HQ3 HB3
  obtain ⟨hr, hR, hal⟩ := lit2 w4 #[.int .u8 1] #[.int .u8 1] [1] [1] 1 1 rfl rfl (by decide) rfl rfl (by decide)
  have HE2 := Lib.hid (cdEncode (HC4.out.below hal) _ _ (some ⟨w4.heap.size + 1 + 1, 0, none⟩) 2 hr hR (by simp) rfl rfl (by intro r hr; simp only [List.mem_cons, List.not_mem_nil, or_false] at hr; rcases hr with rfl | rfl <;> (show 1 ≤ 1000000000; decide)))
  have hD2 : Hid (Cod.pars 2 (bss [(⟨some ⟨w4.heap.size, 0, none⟩, 1, 1, [1]⟩ : RowB), ⟨some ⟨w4.heap.size + 1, 0, none⟩, 1, 1, [1]⟩]) 1 = [[122]]) := by show Cod.pars 2 [[1], [1]] 1 = [[122]]; decide +kernel
  rw [hD2.out] at HE2
  have HAL := Lib.hid hal
  clear hal hr hR hD2
  go_wp2_with fail
  refine HE2.out.mono ?_
  rintro e w5 ⟨A5, n5, c5, L5, rfl, hL5, hn5, ho5, hR5, hb5⟩
  have HB45 := Lib.hid (HAL.out.via hb5)
  have HB5 := Lib.hid (HB4.out.via HB45.out)
  have HC5 := Lib.hid (HC24.out.below HB45.out)
  have HP5 := Lib.hid (HP4.out.below (HB45.out.mono HZ34.out))
  have HQ5 := Lib.hid (HQ4.out.below (HB45.out.mono HZ34.out))
  have HZ35 := Lib.hid (Nat.le_trans HZ34.out HB45.out.size)
  obtain ⟨⟨rA5, rn5, rc5, rb5⟩, rfl, hrb⟩ := one_row hL5
  simp only at hrb
  subst hrb
  obtain rfl : n5 = 1 := hn5.symm
  have HP6 := Lib.hid (Rd.of_own ho5)
  have HQ6 := Lib.hid (hR5.at.get (k := 0) (by show 0 < 1; decide))
  obtain rfl : rn5 = 1 := HQ6.out.len.symm
  clear HE2 HAL ho5 hR5 hb5 HB4 HB45 HC24 HP4 HQ4 HC4 HZ34
  have HNN := Lib.hid (cdN HC5.out)
  have HFUL := Lib.hid HC5.out.full
  go_wp2_with fail
  refine HNN.out.mono ?_
  rintro e w6 ⟨rfl, rfl⟩
  have HRW := Lib.hid (cdRow (HC5.out.drewN 1) 1 (by decide))
  have hFR : Hid (Cod.facRow 1 1 = [1]) := by show _ = _; decide +kernel
  rw [hFR.out] at HRW
  have H255 := Lib.hid (fun W => cdNew0 (.pointer (some ⟨w.heap.size, 0, none⟩)) 255 1 (by unfold mayC; omega) (by omega) (by omega) W)
  have HNIL := Lib.hid (fun W => cdNewNil 1 1 (by decide) (by decide) (by decide) W)
  clear HNN hFR hn3 hn5 HFUL
  go_wp2_with fail
  refine HRW.out.mono ?_
  rintro e w7 ⟨A7, n7, c7, rfl, hn7, ho7, hb7⟩
  have hb57 : Below w5.heap.size w5 w7 := (below_drewN (Below.refl w5.heap.size w5) 1).trans hb7
  have HB7 := Lib.hid (HB5.out.via hb57)
  have hp7 := HP5.out.below (hb57.mono HZ35.out)
  have hq7 := HQ5.out.below (hb57.mono HZ35.out)
  have hp8 := HP6.out.below hb57
  have hq8 := HQ6.out.below hb57
  obtain rfl : n7 = 1 := hn7.symm
  have hcv7 : (convert 38 9 (.slice A7 1 c7)).run Try.prog w7 = .ok (.string ⟨#[1]⟩) w7 := str_run (w := w7) (wS := w7) (Rd.of_own ho7) (Below.refl _ _) (Nat.le_refl _) rfl c7
  have hcv3 : (convert 38 9 (.slice rA3 2 rc3)).run Try.prog w7 = .ok (.string ⟨#[7, 9]⟩) w7 := str_run (w := w7) (wS := w7) hq7.rd (Below.refl _ _) (Nat.le_trans HZ35.out hb57.size) rfl rc3
  obtain ⟨ad3, rfl, _, hc3⟩ := hp7.row (k := 0) (by show 0 < 1; decide)
  obtain ⟨ad5, rfl, _, hc5⟩ := hp8.row (k := 0) (by show 0 < 1; decide)
  obtain ⟨ad8, e8, _, hc8⟩ := hq8.rd.byte (k := 0) (by show 0 < 1; decide)
  simp only [List.getElem_cons_zero] at hc3 hc5 hc8 e8
  subst e8
  rw [addr_add_zero] at hc3 hc5 hc8
  have hc8' : w7.cell? ad8 = some (.int .u8 122) := hc8
  clear hp7 hq7 hp8 hq8 ho7 hb57 hb7 HP5 HQ5 HP6 HQ6 HC5 HRW hc8
  go_wp2_with fail
  refine (H255.out _).mono ?_
  rintro e w8 ⟨rfl, rfl⟩
  go_wp2_with fail
  refine (HNIL.out _).mono ?_
  rintro e w9 ⟨rfl, hb9⟩
  go_wp2
  go_ret
  exact ⟨rfl, HB7.out.via hb9⟩
end Cib
