/- The document's sector of a shard: contract. -/
import Derived.Test.YtpkpdamdclafjaaShdX
set_option linter.unusedVariables false
set_option linter.unusedSimpArgs false
set_option maxRecDepth 40000
namespace Cib
open Go Go.RowKit Go.Proofs

theorem kindB_of {k : Nat} (h : Shd.kindB k = true) : 1 ≤ k ∧ k ≤ 4 := by simpa [Shd.kindB] using h
theorem kindB_not {k : Nat} (h : ¬ Shd.kindB k = true) : k = 0 ∨ 4 < k := by
  simp [Shd.kindB] at h
  omega
set_option maxHeartbeats 1000000 in
theorem refPutS (s : Shd.Sh) (hs : s.ok) (w : World) :
    Calls Try.prog 13 #[.agg (shC s)] w (OutB (Shd.putS s).1 (Shd.putS s).2 w) := by
  have h0 := shC0 s
  have h1 := shC1 s
  have h2 := shC2 s
  have h3 := shC3 s
  have h4 := shC4 s
  obtain ⟨b0, b1, b2, b3, b4, b5⟩ := hs
  by_cases hk : Shd.kindB s.kind = true
  · have HV : Hid (Shd.putS s = (Shd.closed (Shd.core s), 0)) := if_pos hk
    obtain ⟨k1, k2⟩ := kindB_of hk
    have HC5 := Lib.hid (fun j (h : j < s.body.length) => shC5 s h)
    have B3 := Lib.hid b3
    have HBL := Lib.hid b5
    have HCO : Hid (Shd.core s = Shd.headB s ++ s.body) := rfl
    have HHL := Lib.hid (Shd.headB_length s)
    obtain ⟨kb, HKB, hkb⟩ := byte_mk b0
    obtain ⟨ib, HIB, hib⟩ := byte_mk b1
    have HHB : Hid (Shd.headB s = ((([kb, ib] ++ Num.leB s.place 2) ++ Num.leB s.gen 8) ++ Num.leB s.size 2) ++ [0, 0]) := by
      show _ = _
      unfold Shd.headB
      have e1 : ∀ n, Num.leB n 1 = [UInt8.ofNat n] := fun n => by simp [Num.leB]
      have e2 : Num.leB 0 2 = [0, 0] := by decide
      rw [e1, e1, e2, HKB.out, HIB.out]
      simp
    rw [hkb] at h0 k1 k2
    rw [hib] at h1
    have hd : decide (4 < (kb.toNat : Int)) = false := by simp; omega
    have hd2 : decide ((kb.toNat : Int) < 1) = false := by simp; omega
    clear hk b3 hkb hib b5
    obtain ⟨C, hC⟩ : ∃ C, Hid (shC s = C) := ⟨_, rfl⟩
    rw [hC.out] at h0 h1 h2 h3 h4 HC5 ⊢
    have hrd0 : Rd ((w.alloc (.cells C 26)).alloc (.cells #[.int .u8 (kb.toNat : Int), .int .u8 (ib.toNat : Int)] 5)) (w.heap.size + 2) (some ⟨w.heap.size + 1, 0, none⟩) ([kb, ib].map bv) := by
      have := Rd.new (w.alloc (.cells C 26)) #[Value.int .u8 (kb.toNat : Int), .int .u8 (ib.toNat : Int)] 5 (0, 0) (vs := [kb, ib].map bv) rfl
      simpa using this
    go_enter Try.func13, Try.ntmps13
    go_wp2_with fail
    refine (Go.Proofs.Ytpkpdamdclafjaa.refPut _ 2 [kb, ib] 2 s.place _ _ hrd0 (len := 2) rfl (by simp) (by decide) (by omega) (by omega)).mono ?_
    rintro e w2 ⟨A2, n2, c2, rfl, hn2, ho2, hb2⟩
    have hp2 : Num.put [kb, ib] 2 s.place = [kb, ib] ++ Num.leB s.place 2 := rfl
    rw [hp2] at hn2 ho2
    have hn2' : n2 = 4 := by rw [← hn2]; simp [Num.leB_length]
    subst hn2'
    have hbw : Below w.heap.size w w2 := (((Below.refl _ _).alloc (Nat.le_refl _) _).alloc (by simp) _).trans (hb2.mono (by simp; omega))
    have hv2 : Blk w2 w.heap.size 26 C := ((Blk.new w 26 C).alloc _).below hb2 (by simp; omega)
    have hr2 := Rd.of_own ho2
    have hc3 := (hv2.cell 3).trans h3
    have HL2 : Hid (([kb, ib] ++ Num.leB s.place 2).length = 4) := by (show _ = _; simp [Num.leB_length])
    clear hb2 ho2 hn2 hp2 hrd0
    go_wp2_with fail
    refine (Go.Proofs.Ytpkpdamdclafjaa.refPut A2 c2 ([kb, ib] ++ Num.leB s.place 2) 8 s.gen _ _ hr2 HL2.out (Nat.le_refl _) (by decide) B3.out (by omega)).mono ?_
    rintro e w3 ⟨A3, n3, c3, rfl, hn3, ho3, hb3⟩
    have hp3 : Num.put ([kb, ib] ++ Num.leB s.place 2) 8 s.gen = ([kb, ib] ++ Num.leB s.place 2) ++ Num.leB s.gen 8 := rfl
    rw [hp3] at hn3 ho3
    have hn3' : n3 = 12 := by rw [← hn3]; simp [Num.leB_length]
    subst hn3'
    replace hbw := hbw.via hb3
    have hv3 := hv2.below hb3 hv2.lt
    have hr3 := Rd.of_own ho3
    have hc4 := (hv3.cell 4).trans h4
    have HL3 : Hid ((([kb, ib] ++ Num.leB s.place 2) ++ Num.leB s.gen 8).length = 12) := by (show _ = _; simp [Num.leB_length])
    clear hb3 ho3 hn3 hp3 hv2 hc3 hr2 HL2
    go_wp2_with fail
    refine (Go.Proofs.Ytpkpdamdclafjaa.refPut A3 c3 (([kb, ib] ++ Num.leB s.place 2) ++ Num.leB s.gen 8) 2 s.size _ _ hr3 HL3.out (Nat.le_refl _) (by decide) (by omega) (by omega)).mono ?_
    rintro e w4 ⟨A4, n4, c4, rfl, hn4, ho4, hb4⟩
    have hp4 : Num.put (([kb, ib] ++ Num.leB s.place 2) ++ Num.leB s.gen 8) 2 s.size = (([kb, ib] ++ Num.leB s.place 2) ++ Num.leB s.gen 8) ++ Num.leB s.size 2 := rfl
    rw [hp4] at hn4 ho4
    have hn4' : n4 = 14 := by rw [← hn4]; simp [Num.leB_length]
    subst hn4'
    replace hbw := hbw.via hb4
    have hv4 := hv3.below hb4 hv3.lt
    have hz4 := hb4.size
    have hwz := hbw.size
    have ho4' := ho4.mono (show w.heap.size + 1 ≤ w3.heap.size by have := hv3.lt; omega)
    have hwz1 : w.heap.size + 1 ≤ w4.heap.size := hv4.lt
    clear hb4 ho4 hn4 hp4 hv3 hc4 hr3 HL3 h1 h2 h3 h4 h0
    go_wp2_with (at_builtin; refine appB _ rfl (.tmp 33) (.tmp 34) rfl (w.heap.size + 1) A4 14 c4 _ rfl (ho4'.alloc _) _ (some ⟨w4.heap.size, 0, none⟩) 2 2 ([0, 0].map bv) rfl rfl (Rd.new w4 _ _ _ rfl) one_bytes (by omega) (by simp; omega) ?_; intro A5 c5 w5 ho5 hg5 hb5)
    rw [← List.map_append, ← HHB.out] at ho5
    replace hbw := (hbw.alloc hwz (.cells #[Value.int .u8 0, .int .u8 0] 5)).trans (hb5.mono (Nat.le_succ _))
    have hv5 : Blk w5 w.heap.size 26 C := (hv4.alloc _).below hb5 (Nat.lt_succ_self _)
    clear hb5 hg5 hv4 ho4' hwz1 hwz hz4
    go_loopw [4, 5] (fun b i wr => ∃ k A2 c2, k ≤ 44 ∧ i = .int .i64 (k : Nat) ∧ b = .slice A2 (16 + k) c2 ∧ Below w.heap.size w wr ∧ Blk wr w.heap.size 26 C ∧ wr.ownsRow (w.heap.size + 1) 5 1 (.slice A2 (16 + k) c2) (16 + k) ((Shd.headB s ++ s.body.take k).map bv)) (fun _ i _ => 44 - (intOf i).toNat)
    case atStart => exact ⟨0, A5, c5, by omega, rfl, rfl, hbw, hv5, by rw [List.take_zero, List.append_nil]; exact ho5⟩
    case round =>
      clear hbw hv5 ho5
      obtain ⟨k, A2, c2, hk, rfl, rfl, hb, hv, ho⟩ := hrel
      by_cases hlt : k < 44
      · have hlb : k < s.body.length := by rw [HBL.out]; exact hlt
        have hcb := (hv.cell (5 + k)).trans (HC5.out k hlb)
        have HN : Hid (s.body.take (k + 1) = s.body.take k ++ [s.body[k]]) := by (show _ = _; exact List.take_succ_eq_append_getElem hlb)
        generalize s.body[k] = z at *
        unfold bv at hcb
        have hz := hv.lt
        go_wp2_with (at_builtin; refine appB _ rfl (.tmp 40) (.tmp 45) rfl (w.heap.size + 1) A2 (16 + k) c2 _ rfl (ho.alloc _) _ (some ⟨wr.heap.size, 0, none⟩) 1 1 [bv z] rfl rfl (Rd.new wr _ _ _ rfl) one_byte (by omega) (by simp; omega) ?_; intro A3 c3 w3 ho3 hg3 hb3)
        exact ⟨⟨k + 1, A3, c3, by omega, by go_num, rfl, (hb.alloc hb.size _).trans (hb3.mono (Nat.le_succ _)), (hv.alloc _).below hb3 (Nat.lt_succ_self _), by rw [HN.out, ← List.append_assoc, List.map_append]; exact ho3⟩, by simp [intOf]; omega⟩
      · obtain rfl : k = 44 := by omega
        rw [List.take_of_length_le (by rw [HBL.out]; exact Nat.le_refl _), ← HCO.out] at ho
        have HCL : Hid ((Shd.core s).length = 60) := by (show _ = _; rw [HCO.out, List.length_append, HHL.out, HBL.out])
        have hbs := Lib.hid hb.size
        go_wp2_with fail
        refine (refClosed A2 c2 (Shd.core s) wr _ (Rd.of_own ho) HCL.out (Nat.le_refl _) (by omega)).mono ?_
        rintro e w6 ⟨A6, n6, c6, rfl, hn6, ho6, hb6⟩
        go_wp2
        go_ret2
        exact ⟨A6, n6, c6, by rw [HV.out]; rfl, by rw [HV.out]; exact hn6, by rw [HV.out]; exact ho6.mono hbs.out, hb.via hb6⟩
  · have HV : Hid (Shd.putS s = ([], 2)) := if_neg hk
    have hk' := kindB_not hk
    have B3 := Lib.hid b3
    clear hk b3
    generalize shC s = C at *
    rcases hk' with hk' | hk'
    · rw [hk'] at h0
      go_enter Try.func13, Try.ntmps13
      go_wp2
      go_ret2
      exact ⟨none, 0, 0, by rw [HV.out]; rfl, by rw [HV.out]; rfl, by rw [HV.out]; exact World.ownsRow_nil _ _ _ _, (Below.refl _ _).alloc (Nat.le_refl _) _⟩
    · have hd : decide (4 < (s.kind : Int)) = true := by simp; omega
      have hd2 : decide ((s.kind : Int) < 1) = false := by simp; omega
      go_enter Try.func13, Try.ntmps13
      go_wp2
      go_ret2
      exact ⟨none, 0, 0, by rw [HV.out]; rfl, by rw [HV.out]; rfl, by rw [HV.out]; exact World.ownsRow_nil _ _ _ _, (Below.refl _ _).alloc (Nat.le_refl _) _⟩
end Cib
