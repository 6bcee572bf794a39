/- The page's examples of layer 11 come out right, whatever the input. -/
import Derived.Test.YtpkpdamdclafjaaShdX
set_option linter.unusedVariables false
set_option linter.unusedSimpArgs false
set_option maxRecDepth 40000
namespace Cib
open Go Go.RowKit Go.Proofs

theorem lx1 : genP 2 5 = (2097157, 0) := by decide
theorem lx2 : Shd.getS (List.replicate 64 0) = (Shd.nul, 4) := by
  unfold Shd.getS
  rw [if_neg (by simp), if_pos (by decide +kernel)]
def sx : Shd.Sh := ⟨3, 1, 258, 2097157, 9, List.replicate 44 0⟩
theorem sx_ok : sx.ok := ⟨by decide, by decide, by decide, by decide, by decide, by simp [sx]⟩
theorem lx3 : Shd.putS sx = (Shd.closed (Shd.core sx), 0) := if_pos (by decide)
theorem lx4 : (Shd.closed (Shd.core sx)).take 4 = [3, 1, 2, 1] := by decide +kernel
theorem lx5 : Shd.getS (Shd.closed (Shd.core sx)) = (sx, 0) := Shd.get_put sx_ok (by decide)
theorem sxBuilt : Try.prog.built 26 [(0, .int .u8 3), (1, .int .u8 1), (2, .int .u16 258), (3, .int .u64 2097157), (4, .int .u16 9)] = some (shC sx) := by kernel_rfl
set_option maxHeartbeats 1000000 in
theorem lies (w : World) :
    Calls Try.prog 8 #[] w fun e w' => e = .returned (.bool true) ∧ Below w.heap.size w w' := by
  have hmk : ∀ W : World, (Instr.makeSlice 28 (.int .i64 64) (.int .i64 64)).run Try.prog W = .ok (.slice (some ⟨W.heap.size, 0, none⟩) 64 64) (W.alloc (.cells (madeCells #[.int .u8 0] 64) 5)) := fun W => makeB 64 (by decide) W
  have HG := Lib.hid (fun W => shdGen 2 5 (by decide) (by decide) W)
  rw [lx1] at HG
  unfold genV at HG
  have HP := Lib.hid (fun W => shdPut sx sx_ok W)
  rw [lx3] at HP
  have HX1 := Lib.hid (fun W A B h hB => shdGet A 64 (List.replicate 64 0) W B h (len := 64) (by simp) (by decide) (by unfold maxLen; decide) hB)
  have HGO1 : Hid (∀ w e w', GetOut (List.replicate 64 0) w e w' → e = .returned (.tuple #[.agg (shC Shd.nul), .int .i64 4]) ∧ Below w.heap.size w w') := fun w e w' h => by
    unfold GetOut at h
    rw [lx2] at h
    exact h
  have HGO2 : Hid (∀ w e w', GetOut (Shd.closed (Shd.core sx)) w e w' → e = .returned (.tuple #[.agg (shC sx), .int .i64 0]) ∧ Below w.heap.size w w') := fun w e w' h => by
    unfold GetOut at h
    rw [lx5] at h
    exact h
  have HBu := Lib.hid sxBuilt
  have HZ := Lib.hid shdZero
  have HS := Lib.hid (shCsize Shd.nul Shd.nul_ok)
  have HO := Lib.hid (shC_one Shd.nul)
  have HS2 := Lib.hid (shCsize sx sx_ok)
  have HO2 := Lib.hid (shC_one sx)
  have h2 := shC2 sx
  have h3 := shC3 sx
  have h4 := shC4 sx
  have HCL : Hid ((Shd.closed (Shd.core sx)).length = 64) := by (show _ = _; rw [Shd.closed_length, Shd.core_length sx_ok])
  have H4 := Lib.hid lx4
  change (shC sx)[2]? = some (.int .u16 258) at h2
  change (shC sx)[3]? = some (.int .u64 2097157) at h3
  change (shC sx)[4]? = some (.int .u16 9) at h4
  generalize shC sx = C at *
  generalize Shd.closed (Shd.core sx) = q at *
  generalize shC Shd.nul = Z at *
  go_enter Try.func8, Try.ntmps8
  go_wp2_with (go_at_call 10; refine (HG.out _).mono ?_; rintro _ _ ⟨rfl, rfl⟩)
  refine (HX1.out _ _ _ (Go.Proofs.Ytpkpdamdclafjaa.made_zeros w 64 _) (by simp)).mono ?_
  rintro e w2 hgo
  obtain ⟨rfl, hb2⟩ := HGO1.out _ _ _ hgo
  replace hb2 := ((Below.refl w.heap.size w).alloc (Nat.le_refl _) _).trans (hb2.mono (by simp))
  clear hgo hmk
  go_wp2_with (first | (refine wpList_allocAs rfl 26 rfl Z HZ.out ?_) | (refine wpList_store_row rfl 26 _ _ rfl w2.heap.size Z rfl rfl 26 Z (Blk.new _ _ _) (by rw [HS.out]; exact shdInfo) rfl HO.out ?_) | (refine wpList_buildAs rfl 26 _ rfl C HBu.out (by simp [go_sem]) ?_))
  have hb3 := below_setRow (hb2.alloc hb2.size (.cells Z 26)) hb2.size Z
  generalize (w2.alloc (.cells Z 26)).setRow w2.heap.size Z = w3 at *
  refine (HP.out _).mono ?_
  rintro e w4 ⟨A4, n4, c4, rfl, hn4, ho4, hb4⟩
  have hn4' : n4 = 64 := by rw [← hn4, HCL.out]
  subst hn4'
  have hr4 := Rd.of_own ho4
  have hcp := own_cap ho4
  replace hb4 := hb3.via hb4
  have HX2 := Lib.hid (shdGet A4 c4 q w4 _ hr4 HCL.out hcp.1 hcp.2 (Nat.le_refl _))
  clear hn4 ho4 hb3 hb2
  go_wp2_with fail
  refine HX2.out.mono ?_
  rintro e w5 hgo
  obtain ⟨rfl, hb5⟩ := HGO2.out _ _ _ hgo
  have hr5 := hr4.below hb5
  have hr5z := hb5.size
  replace hb5 := hb4.via hb5
  clear hgo hb4 hr4
  have hr6 : Rd w5 w4.heap.size A4 ((q.take 4).map bv) := by rw [List.map_take]; exact hr5.take 4
  rw [H4.out] at hr6
  have HST := Lib.hid (fun (W : World) (hW : Below w4.heap.size w5 W) => run_str (P := Try.prog) 28 9 5 Try.underlying28 Try.underlying5 Try.underlying9 (hr6.below hW) (n := 4) rfl c4)
  have hsl := fun W : World => run_cut_to (P := Try.prog) 28 5 Try.underlying28 sizeByte A4 64 c4 4 .i64 (by omega) W
  go_upto_region 5 with (first | (refine wpList_allocAs rfl 26 rfl Z HZ.out ?_) | (refine wpList_store_row rfl 26 _ _ rfl w5.heap.size C rfl rfl 26 Z (Blk.new _ _ _) (by rw [HS2.out]; exact shdInfo) (by rw [HS.out, HS2.out]) HO2.out ?_))
  have hb6 := below_setRow (hb5.alloc hb5.size (.cells Z 26)) hb5.size C
  have hv6 := (Blk.new w5 26 Z).row C
  have hz5 : w4.heap.size ≤ w5.heap.size := hr5z
  have hst := HST.out _ (below_setRow ((Below.refl w4.heap.size w5).alloc hz5 (.cells Z 26)) hz5 C)
  generalize (w5.alloc (.cells Z 26)).setRow w5.heap.size C = w6 at *
  have hc2 := (hv6.cell 2).trans h2
  have hc3 := (hv6.cell 3).trans h3
  have hc4 := (hv6.cell 4).trans h4
  have HE := Lib.hid (fun W => shdEpoch 2097157 W)
  have h64 := hcp.1
  clear HG HX1 HBu HP HGO1 HGO2 hcp HX2
  go_wp2_with (go_at_call 12; refine (HE.out _).mono ?_; rintro _ _ ⟨rfl, rfl⟩)
  go_ret
  exact ⟨rfl, hb6⟩
end Cib
