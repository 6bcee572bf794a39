/- A shard is got of a sector whose sum is right: contract. -/
import Derived.Test.YtpkpdamdclafjaaShdU
set_option linter.unusedVariables false
set_option linter.unusedSimpArgs false
set_option maxRecDepth 40000
namespace Cib
open Go Go.RowKit Go.Proofs

theorem run_arrayAt (t e : TypeId) (n : Nat) (ht : Try.prog.underlying t = some (.array n e)) (a : Addr) (l c : Nat) (h : n ≤ l) (W : World) : (Instr.arrayAt t (.slice (some a) l c)).run Try.prog W = .ok (.pointer (some a)) W := by
  unfold Instr.arrayAt
  rw [Sem.run_bind, run_underlying ht]
  simp
  omega
theorem bodyInfo : (Try.prog.info? 24).map (·.size) = some 44 := by kernel_rfl
set_option maxHeartbeats 2000000 in
theorem shdGetRest (A : Option Addr) (cap : Nat) (b : List UInt8) (w : World) (B : Nat) (h : Rd w B A (b.map bv)) (hl : b.length = 64) (hcap : 64 ≤ cap) (hcm : cap ≤ maxLen) (hB : B ≤ w.heap.size) (hs : Shd.at_ b 60 4 = (Crc.more 0#32 (b.take 60)).toNat) :
    Calls Try.prog 9 #[.slice A 64 cap] w (GetOut b w) := by
  have HV : Hid (Shd.getS b = if Shd.kindB (Shd.at_ b 0 1) = false ∨ Shd.at_ b 14 2 ≠ 0 then (Shd.nul, 3) else (Shd.readS b, 0)) := by (show _ = _; unfold Shd.getS; rw [if_neg (by omega), if_neg (by rw [hs]; exact fun h => h rfl)])
  have hg := fun W (hw : Below w.heap.size w W) => Go.Proofs.Ytpkpdamdclafjaa.numGet A cap b 60 4 W B (h.below (hw.mono hB)) hl hcap hcm (by decide) (by decide)
  have hge : Go.Proofs.Ytpkpdamdclafjaa.getP b 60 4 = (Shd.at_ b 60 4, 0) := getP_at (i := 60) (wd := 4) (by decide) (by decide) (by omega)
  unfold Go.Proofs.Ytpkpdamdclafjaa.getV at hg
  rw [hge, hs] at hg
  simp only at hg
  have ht : Rd w B A ((b.take 60).map bv) := by rw [List.map_take]; exact h.take 60
  have hc := fun W (hw : Below w.heap.size w W) => Go.Proofs.Ytpkpdamdclafjaa.crcSum A cap (b.take 60) W B (ht.below (hw.mono hB)) (by rw [List.length_take]; unfold maxLen; omega) (len := 60) (by rw [List.length_take]; omega)
  have hq := Shd.sum_lt (b.take 60)
  generalize (Crc.more 0#32 (b.take 60)).toNat = q at *
  have hn' : (q : Int) ≤ 4294967295 := by omega
  have HG := Lib.hid hg
  have HC := Lib.hid hc
  have hsl := fun W : World => run_cut_to (P := Try.prog) 28 5 Try.underlying28 sizeByte A 64 cap 60 .i64 (by omega) W
  have HO := Lib.hid (shC_one Shd.nul)
  have HS := Lib.hid (shCsize Shd.nul Shd.nul_ok)
  have HZ := Lib.hid shdZero
  have HB := Lib.hid shdBuilt
  have HB2 := Lib.hid shdBuilt2
  have HN := Lib.hid shC_nums
  have HO1 := Lib.hid (fun a b => shC_one ⟨a, b, 0, 0, 0, List.replicate 44 0⟩)
  have HS1 := Lib.hid (fun a b => (show (shC ⟨a, b, 0, 0, 0, List.replicate 44 0⟩).size = 49 by simp [shC]))
  have HVV := Lib.hid hl
  have h12 := Shd.at_lt b 0 1
  have h13 := Shd.at_lt b 1 1
  have h14 := Shd.at_lt b 2 2
  have h15 := Lib.hid (Shd.at_lt b 4 8)
  have h16 := Shd.at_lt b 12 2
  have h17 := Shd.at_lt b 14 2
  have HK := Lib.hid (fun W => shdKind (Shd.at_ b 0 1) W)
  have HT := fun {g1 g2 k wd : Nat} (a1 : g1 ≠ g2) (a2 : w.heap.size ≤ g2) (a3 : k + wd ≤ 64) (a4 : 1 ≤ wd) (a5 : wd ≤ 8) (W : World) (a6 : Below w.heap.size w W) => Lib.hid (shdTakeG h hl hcap hcm hB a1 a2 a3 a4 a5 W a6)
  have hr16 : Rd w B (cut A cap 16) (((b.drop 16).take 44).map bv) := by
    rw [List.map_take, List.map_drop]
    exact (h.cut (by rw [List.length_map]; omega) (by rw [List.length_map]; omega)).take 44
  have hbl : ((b.drop 16).take 44).length = 44 := by rw [List.length_take, List.length_drop]; omega
  have HBL := Lib.hid hbl
  obtain ⟨sb, so, hsA, hsB, hsc⟩ := hr16.spot (by intro e; have := congrArg List.length e; rw [List.length_map, hbl] at this; simp at this)
  have hsl2 : ∀ W : World, (Instr.slice 28 (.slice A 64 cap) (some (.int .i64 16)) (some (.int .i64 60)) none).run Try.prog W = .ok (.slice (some ⟨sb, so, none⟩) 44 (cap - 16)) W := fun W => by
    rw [← hsA]
    exact run_cut_both (P := Try.prog) 28 5 Try.underlying28 sizeByte A 64 cap 16 60 .i64 .i64 (by omega) (by omega) W
  have HR16 : Hid (∀ W, Below w.heap.size w W → W.rangeAt sb so (((b.drop 16).take 44).map bv)) := fun W hW j v hv => by
    obtain ⟨hj, he⟩ := List.getElem?_eq_some_iff.1 hv
    exact (hW.cell (p := ⟨sb, so + j, none⟩) (by show sb < _; omega)).trans ((hsc j hj).trans (by rw [he]))
  unfold GetOut
  clear hs hg hc hge hq ht hr16 hsA hsc hbl
  obtain ⟨Z, HZN⟩ : ∃ Z, Hid (shC Shd.nul = Z) := ⟨_, rfl⟩
  rw [HZN.out] at HO HS HZ HB
  go_enter Try.func9, Try.ntmps9
  go_wp2_with (first | (refine wpList_allocAs rfl 26 rfl Z HZ.out ?_) | (go_at_call 22; refine (HG.out _ ((Below.refl _ _).alloc (Nat.le_refl _) _)).mono ?_; rintro e w' ⟨rfl, rfl⟩) | (go_at_call 21; refine (HC.out _ ((Below.refl _ _).alloc (Nat.le_refl _) _)).mono ?_; rintro e w' ⟨rfl, rfl⟩) | (go_at_call 23; refine (shdTaker2 A 64 cap _).mono ?_; rintro e w2 ⟨g1, g2, rfl, a12, ag1, ag2, b1, b2, hb2, al1, al2⟩))
  have hz1 : w.heap.size + 1 ≤ w2.heap.size := by have := hb2.size; simpa using this
  have hbw : Below w.heap.size w w2 := ((Below.refl _ _).alloc (Nat.le_refl _) _).trans (hb2.mono (by simp))
  have hr : Blk w2 w.heap.size 26 Z := (Blk.new _ _ _).below hb2 (by simp)
  have ag1' : w.heap.size < g1 := by simp at ag1; omega
  have ag2' : w.heap.size < g2 := by simp at ag2; omega
  clear hb2 ag1 ag2 HG HC hsl hn'
  change _ < 256 at h12 h13
  change _ < 65536 at h14 h16 h17
  refine ((HT (k := 0) (wd := 1) a12 (by omega) (by decide) (by decide) (by decide) _ hbw).out b1 b2).mono ?_
  rintro _ w3 ⟨rfl, hb3, b13, b23, hk3, hz3⟩
  have hr3 := hk3 _ _ _ (by omega) hr
  clear hk3 b1 b2 hr hbw
  go_wp2_with fail
  refine ((HT (k := 1) (wd := 1) a12 (by omega) (by decide) (by decide) (by decide) _ hb3).out b13 b23).mono ?_
  rintro _ w4 ⟨rfl, hb4, b14, b24, hk4, hz4⟩
  have hr4 := hk4 _ _ _ (by omega) hr3
  clear hk4 b13 b23 hr3 hb3
  replace al1 : g1 < w4.heap.size := by omega
  replace al2 : g2 < w4.heap.size := by omega
  have hgz : w.heap.size < w4.heap.size := by omega
  have hg31 : g1 ≠ w4.heap.size := by omega
  have hg32 : g2 ≠ w4.heap.size := by omega
  clear hz3 hz4 hz1
  have HR : Hid (Shd.readS b = ⟨Shd.at_ b 0 1, Shd.at_ b 1 1, Shd.at_ b 2 2, Shd.at_ b 4 8, Shd.at_ b 12 2, (b.drop 16).take 44⟩) := rfl
  have HT2 := Lib.hid (fun W (a : Below w.heap.size w W) => HT (g1 := g1) (g2 := g2) (k := 2) (wd := 2) a12 (by omega) (by decide) (by decide) (by decide) W a)
  have HT3 := Lib.hid (fun W (a : Below w.heap.size w W) => HT (g1 := g1) (g2 := g2) (k := 4) (wd := 8) a12 (by omega) (by decide) (by decide) (by decide) W a)
  have HT4 := Lib.hid (fun W (a : Below w.heap.size w W) => HT (g1 := g1) (g2 := g2) (k := 12) (wd := 2) a12 (by omega) (by decide) (by decide) (by decide) W a)
  have HT5 := Lib.hid (fun W (a : Below w.heap.size w W) => HT (g1 := g1) (g2 := g2) (k := 14) (wd := 2) a12 (by omega) (by decide) (by decide) (by decide) W a)
  clear HT
  generalize Shd.at_ b 0 1 = v0 at *
  generalize Shd.at_ b 1 1 = v1 at *
  generalize Shd.at_ b 2 2 = v2 at *
  generalize Shd.at_ b 4 8 = v3 at *
  generalize Shd.at_ b 12 2 = v4 at *
  generalize Shd.at_ b 14 2 = v5 at *
  replace HB2 := Lib.hid (HB2.out v0 v1)
  replace HN := Lib.hid (HN.out v0 v1 v2 v3 v4)
  replace HO1 := Lib.hid (HO1.out v0 v1)
  replace HS1 := Lib.hid (HS1.out v0 v1)
  have hC10 := shC0 ⟨v0, v1, 0, 0, 0, List.replicate 44 0⟩
  simp only at hC10
  generalize shC ⟨v0, v1, 0, 0, 0, List.replicate 44 0⟩ = C1 at *
  go_wp2_with (first | (refine wpList_allocAs rfl 26 rfl Z HZ.out ?_) | (refine wpList_buildAs rfl 26 _ rfl C1 HB2.out (by simp [go_sem]) ?_) | (refine wpList_store_row rfl 26 _ _ rfl w4.heap.size C1 rfl rfl 26 Z (Blk.new _ _ _) (by rw [HS1.out]; exact shdInfo) (by rw [HS.out, HS1.out]) HO1.out ?_))
  have hb5 := below_setRow (hb4.alloc hb4.size (.cells Z 26)) hb4.size C1
  refine ((HT2.out _ hb5).out ((b14.alloc _).rowFar (by omega) _) ((b24.alloc _).rowFar (by omega) _)).mono ?_
  rintro _ w5 ⟨rfl, hb6, b15, b25, hk5, hz5⟩
  have hr5 := hk5 _ _ _ (by omega) ((hr4.alloc _).rowFar (by have := hb4.size; omega) C1)
  have hv5 := hk5 w4.heap.size _ _ (by omega) ((Blk.new w4 26 Z).row C1)
  clear hk5 hb5 b14 b24 hr4 HT2
  clear hz5
  generalize w4.heap.size = g3 at *
  go_wp2_with fail
  refine ((HT3.out _ hb6).out b15 b25).mono ?_
  rintro _ w6 ⟨rfl, hb7, b16, b26, hk6, hz6⟩
  have hr6 := hk6 _ _ _ (by omega) hr5
  have hv6 := hk6 _ _ _ (by omega) hv5
  clear hk6 hb6 b15 b25 hr5 hv5 HT3 hz6
  obtain ⟨x2, hx2⟩ : ∃ x, w6.cell? ⟨g3, 2, none⟩ = some x := ⟨_, (hv6.cell 2).trans (Array.getElem?_eq_getElem (by rw [HS1.out]; decide))⟩
  obtain ⟨x3, hx3⟩ : ∃ x, w6.cell? ⟨g3, 3, none⟩ = some x := ⟨_, (hv6.cell 3).trans (Array.getElem?_eq_getElem (by rw [HS1.out]; decide))⟩
  have hf2 := hv6.frozen 2
  have hf3 := hv6.frozen 3
  go_wp2_with fail
  clear hx2 hx3 hf2 hf3
  refine ((HT4.out _ ((hb7.setCell (by show w.heap.size ≤ g3; omega) _).setCell (by show w.heap.size ≤ g3; omega) _)).out ((b16.far (by exact hg31) _).far (by exact hg31) _) ((b26.far (by exact hg32) _).far (by exact hg32) _)).mono ?_
  rintro _ w7 ⟨rfl, hb8, b17, b27, hk7, hz7⟩
  have hr7 := hk7 _ _ _ (by omega) ((hr6.far (p := ⟨g3, 2, none⟩) (by show w.heap.size ≠ g3; omega) _).far (p := ⟨g3, 3, none⟩) (by show w.heap.size ≠ g3; omega) _)
  have hv7 := hk7 _ _ _ (by omega) ((hv6.set 2 (.int .u16 (v2 : Int))).set 3 (.int .u64 (v3 : Int)))
  clear hk7 hb7 b16 b26 hr6 hv6 HT4 hz7
  obtain ⟨x4, hx4⟩ : ∃ x, w7.cell? ⟨g3, 4, none⟩ = some x := ⟨_, (hv7.cell 4).trans (Array.getElem?_eq_getElem (by rw [Array.size_setIfInBounds, Array.size_setIfInBounds, HS1.out]; decide))⟩
  have hx0 : w7.cell? ⟨g3, 0, none⟩ = some (.int .u8 (v0 : Int)) := (hv7.cell 0).trans (by rw [Array.getElem?_setIfInBounds, if_neg (by decide), Array.getElem?_setIfInBounds, if_neg (by decide)]; exact hC10)
  have hf4 := hv7.frozen 4
  go_wp2_with fail
  clear hx4 hf4 hx0
  refine (HK.out _).mono ?_
  rintro _ _ ⟨rfl, rfl⟩
  replace hb8 := hb8.setCell (p := ⟨g3, 4, none⟩) (by show w.heap.size ≤ g3; omega) (.int .u16 (v4 : Int))
  replace b17 := b17.far (p := ⟨g3, 4, none⟩) (by exact hg31) (.int .u16 (v4 : Int))
  replace b27 := b27.far (p := ⟨g3, 4, none⟩) (by exact hg32) (.int .u16 (v4 : Int))
  replace hr7 := hr7.far (p := ⟨g3, 4, none⟩) (by show w.heap.size ≠ g3; omega) (.int .u16 (v4 : Int))
  replace hv7 := hv7.set 4 (.int .u16 (v4 : Int))
  rw [HN.out] at hv7
  generalize (w7.setCell ⟨g3, 4, none⟩ (.int .u16 (v4 : Int))) = w8 at *
  by_cases hkb : Shd.kindB v0 = true
  · rw [hkb] at HV ⊢
    go_wp2_with fail
    refine ((HT5.out _ hb8).out b17 b27).mono ?_
    rintro _ w9 ⟨rfl, hb9, b19, b29, hk9, hz9⟩
    have hr9 := hk9 _ _ _ (by omega) hr7
    have hv9 := hk9 _ _ _ (by omega) hv7
    clear hk9 hb8 b17 b27 hr7 hv7 HT5 hz9
    by_cases h5 : v5 = 0
    · subst h5
      obtain ⟨bd, HBD⟩ : ∃ bd, Hid ((b.drop 16).take 44 = bd) := ⟨_, rfl⟩
      rw [HBD.out] at HBL HR16 HR
      have HW : Hid (Shd.getS b = (Shd.readS b, 0)) := HV.out.trans (if_neg (by simp))
      have hth : w9.there g3 5 44 := fun j hj => ⟨by rw [hv9.cell (5 + j)]; simp [shC]; omega, hv9.frozen _⟩
      have hvE := hv9.setTo (vs := bd.map bv) (o := 5)
      rw [shC_body _ _ _ _ _ _ HBL.out] at hvE
      have HFC : Hid (shC ⟨v0, v1, v2, v3, v4, bd⟩ = shC (Shd.readS b)) := by (show _ = _; rw [HR.out])
      rw [HFC.out] at hvE
      have HRO := Lib.hid (Shd.readS_ok HVV.out)
      have HFO := Lib.hid (shC_one (Shd.readS b))
      have HFS := Lib.hid (shCsize _ HRO.out)
      have HRE := Lib.hid (hr9.setCellsFar (g' := g3) (by omega) (vs := bd.map bv) (o := 5))
      have HBE := Lib.hid (below_setCells (g := g3) (by omega) (vs := bd.map bv) (o := 5) hb9)
      have HVE := Lib.hid hvE
      clear hvE HFC hv9 hr9
      have hat := fun W => run_arrayAt 24 5 44 Try.underlying24 ⟨sb, so, none⟩ 44 (cap - 16) (Nat.le_refl _) W
      have HVR := Lib.hid (HR16.out w9 hb9)
      have HVI : Hid ((Try.prog.info? 24).map (·.size) = some (bd.map bv).length) := by (show _ = _; rw [List.length_map, HBL.out]; exact bodyInfo)
      obtain ⟨F, HFN⟩ : ∃ F, Hid (shC (Shd.readS b) = F) := ⟨_, rfl⟩
      rw [HFN.out] at HVE HFO HFS
      clear HV
      go_wp2_with (first | (refine wpList_load_mid rfl 24 _ rfl sb so rfl (bd.map bv) _ HVR.out Try.underlying24 rfl HVI.out ?_) | (refine wpList_store_mid rfl 24 _ _ rfl g3 5 (bd.map bv).toArray rfl rfl (by rw [List.size_toArray, List.length_map, HBL.out]; exact hth) (by rw [List.size_toArray]; exact HVI.out) (all_oneCell_toArray one_bytes) ?_; rw [List.toList_toArray]) | (refine wpList_load_row rfl 26 (.tmp 7) rfl g3 rfl 26 F (0, 0) _ HVE.out Try.underlying26 rfl (by rw [HFS.out]; exact shdInfo) ?_) | (refine wpList_store_row rfl 26 (.tmp 2) (.tmp 59) rfl w.heap.size F rfl rfl 26 Z HRE.out (by rw [HFS.out]; exact shdInfo) (by rw [HS.out, HFS.out]) HFO.out ?_))
      refine bodyPost_ret (results_cell_row2 (g := w.heap.size) (te := 26) (cs := F) (fr := (0, 0)) rfl _ _ _ rfl (HRE.out.row F) Try.underlying26 rfl (by rw [HFS.out]; exact shdInfo)) rfl ⟨by rw [HW.out, HFN.out]; rfl, below_setRow HBE.out (Nat.le_refl _) F⟩
    · have hbe : ((v5 : Int) != 0) = true := by rw [bne_iff_ne]; omega
      have HW : Hid (Shd.getS b = (Shd.nul, 3)) := HV.out.trans (if_pos (.inr h5))
      clear h5 HV hv9
      go_wp2_with (first | (refine wpList_buildAs rfl 26 _ rfl Z HB.out (by simp [go_sem]) ?_) | (refine wpList_store_row rfl 26 _ _ rfl w.heap.size Z rfl rfl 26 Z hr9 (by rw [HS.out]; exact shdInfo) rfl HO.out ?_))
      refine bodyPost_ret (results_cell_row2 (g := w.heap.size) (te := 26) (cs := Z) (fr := (0, 0)) rfl _ _ _ rfl (hr9.row Z) Try.underlying26 rfl (by rw [HS.out]; exact shdInfo)) rfl ⟨by rw [HW.out, HZN.out]; rfl, below_setRow hb9 (Nat.le_refl _) Z⟩
  · have hkb' : Shd.kindB v0 = false := by simpa using hkb
    rw [hkb'] at HV ⊢
    have HW : Hid (Shd.getS b = (Shd.nul, 3)) := HV.out.trans (if_pos (.inl rfl))
    clear hkb hkb' HV hv7
    go_wp2_with (first | (refine wpList_buildAs rfl 26 _ rfl Z HB.out (by simp [go_sem]) ?_) | (refine wpList_store_row rfl 26 _ _ rfl w.heap.size Z rfl rfl 26 Z hr7 (by rw [HS.out]; exact shdInfo) rfl HO.out ?_))
    refine bodyPost_ret (results_cell_row2 (g := w.heap.size) (te := 26) (cs := Z) (fr := (0, 0)) rfl _ _ _ rfl (hr7.row Z) Try.underlying26 rfl (by rw [HS.out]; exact shdInfo)) rfl ⟨by rw [HW.out, HZN.out]; rfl, below_setRow hb8 (Nat.le_refl _) Z⟩
end Cib
