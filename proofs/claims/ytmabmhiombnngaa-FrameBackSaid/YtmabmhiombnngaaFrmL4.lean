/- The law FrameBack. -/
import Derived.Test.YtmabmhiombnngaaFrmX
import Derived.Test.YtmabmhiombnngaaFrmFw
import Derived.Test.YtmabmhiombnngaaFrmB
set_option linter.unusedVariables false
set_option linter.unusedSimpArgs false
set_option maxRecDepth 40000
namespace Frm
theorem getR_err {bs : List UInt8} (h : (getR bs).2 ≠ 0) : (getR bs).1.chs = [] := by
  unfold getR at h ⊢
  simp only at h ⊢
  split
  · rfl
  · rename_i h2
    rw [if_neg h2] at h
    exact absurd rfl h
end Frm
namespace Cib
open Go Go.RowKit Go.Proofs
theorem CgM.In.below {w w' : World} {B : Nat} {x : CgM} (h : x.In w B) (hb : Below B w w') : x.In w' B := ⟨h.rd.below hb, h.len, h.cap, h.max, h.gen, h.key, h.siz⟩
theorem CgM.In.more {w : World} {B B' : Nat} {x : CgM} (h : x.In w B) (hb : B ≤ B') : x.In w B' := ⟨h.rd.more hb, h.len, h.cap, h.max, h.gen, h.key, h.siz⟩
/-- The record that came in, put into a box. -/
structure BkI (w : World) (st : Nat) (A : Option Addr) (n k : Nat) (W : World) : Prop where
  bel : Below w.heap.size w W
  box : Blk W w.heap.size 25 #[.int .u64 (st : Int), .slice A n k]
theorem BkI.via {w W W' : World} {st : Nat} {A : Option Addr} {n k : Nat} (h : BkI w st A n k W) (hb : Below W.heap.size W W') : BkI w st A n k W' := ⟨h.bel.via hb, h.box.below hb h.box.lt⟩
theorem BkI.cells {w W : World} {st : Nat} {A : Option Addr} {n k : Nat} (h : BkI w st A n k W) : W.cell? ⟨w.heap.size, 0, none⟩ = some (.int .u64 (st : Int)) ∧ W.cell? ⟨w.heap.size, 1, none⟩ = some (.slice A n k) := by
  have h0 := h.box.cell 0
  have h1 := h.box.cell 1
  simp only [List.getElem?_toArray, List.getElem?_cons_zero, List.getElem?_cons_succ] at h0 h1
  exact ⟨h0, h1⟩
set_option maxHeartbeats 4000000 in
theorem lawBack (st : Nat) (A : Option Addr) (n k : Nat) (X : List CgM) (Ab : Option Addr) (nb cb : Nat) (b : List UInt8) (room : Int) (w : World) (hst : st < 18446744073709551616) (h : Rd w w.heap.size A (X.map CgM.row).flatten) (hX : ∀ x ∈ X, x.In w w.heap.size) (hl : X.length = n) (hn : n ≤ k) (hk : k ≤ maxLen)
    (hb : Rd w w.heap.size Ab (b.map bv)) (hbl : b.length = nb) (hbc : nb ≤ cb) (hbm : cb ≤ maxLen) (hro : -9223372036854775808 ≤ room ∧ room ≤ 9223372036854775807) :
    Calls Try.prog 3 #[.agg #[.int .u64 (st : Int), .slice A n k], .slice Ab nb cb, .int .i64 room] w fun e w' => e = .returned (.bool true) ∧ Below w.heap.size w w' := by
  have hbm' := hbm
  have hk' := hk
  unfold maxLen at hbm' hk'
  have HFR := Lib.hid lawFrames
  have HRD := Lib.hid h
  have HXX := Lib.hid hX
  have HBR := Lib.hid hb
  have HI1 : Hid (BkI w st A n k (w.alloc (.cells #[.int .u64 (st : Int), .slice A n k] 25))) := Lib.hid ⟨(Below.refl w.heap.size w).alloc (Nat.le_refl _) _, Blk.new w 25 #[.int .u64 (st : Int), .slice A n k]⟩
  have HF := Lib.hid (lawFew 0 st A n k X (w.alloc (.cells #[.int .u64 (st : Int), .slice A n k] 25)) ((h.below HI1.out.bel).more HI1.out.bel.size) (fun x hx => ((hX x hx).below HI1.out.bel).more HI1.out.bel.size) hl hn hk)
  have HL := Lib.hid hl
  have HBL := Lib.hid hbl
  clear h hX hb hl hbl
  obtain ⟨x0, x1⟩ := HI1.out.cells
  go_enter Try.func3, Try.ntmps3
  go_wp2_with fail
  refine HF.out.mono ?_
  rintro e w2 ⟨rfl, hb2⟩
  have HI2 := Lib.hid (HI1.out.via hb2)
  clear hb2 HI1 HF x0 x1
  obtain ⟨x0, x1⟩ := HI2.out.cells
  obtain ⟨f, hf⟩ : ∃ f, fewR X = f := ⟨_, rfl⟩
  rw [hf]
  by_cases hgo : f = false ∨ 2000 < nb ∨ room < 8 ∨ 2000 < room
  · clear x0 x1 hf
    have hgo2 : (f = false) ∨ (f = true ∧ 2000 < nb) ∨ (f = true ∧ room < 8) ∨ (f = true ∧ 2000 < room) := by
      cases f
      · exact .inl rfl
      · simpa using hgo
    clear hgo
    rcases hgo2 with rfl | ⟨rfl, h1⟩ | ⟨rfl, h1⟩ | ⟨rfl, h1⟩
    all_goals
      go_wp2_with (go_at_call 8; refine (HFR.out _).mono ?_; rintro e w' ⟨rfl, hb9⟩)
      all_goals (go_ret; exact ⟨rfl, HI2.out.bel.via hb9⟩)
  obtain rfl : f = true := by cases f <;> simp_all
  have hnb : nb ≤ 2000 := by omega
  obtain ⟨R, rfl⟩ := Int.eq_ofNat_of_zero_le (show 0 ≤ room by omega)
  have hR1 : 8 ≤ R := by omega
  have hR2 : R ≤ 2000 := by omega
  clear hgo hro
  obtain ⟨hf1, hf2⟩ := fewR_true hf
  rw [HL.out] at hf1
  have HXA : Hid (∀ x ∈ X, x.At w w.heap.size) := Lib.hid fun x hx => (HXX.out x hx).at (hf2 x hx).1 (hf2 x hx).2
  have HGN : Hid (∀ c ∈ X.map (·.c), c.blob.gen < 18446744073709551616) := Lib.hid fun c hc => by
    obtain ⟨x, hx, rfl⟩ := List.mem_map.1 hc
    exact (HXA.out x hx).gen
  have HRB := Lib.hid fun W (hI : BkI w st A n k W) => (HRD.out.below hI.bel).more hI.bel.size
  have HXB := Lib.hid fun W (hI : BkI w st A n k W) => fun x hx => ((HXA.out x hx).below hI.bel).more hI.bel.size
  clear hf hf2 HXX HRD
  have HP := Lib.hid (frmPut st A n k X w2 (HRB.out _ HI2.out) (HXB.out _ HI2.out) HL.out (by omega) hst)
  have HRG := Lib.hid fun W (hI : BkI w st A n k W) => frmRight st A n k X W (HRB.out _ hI) (HXB.out _ hI) HL.out (by omega)
  go_wp2_with fail
  refine HP.out.mono ?_
  rintro e w3 hp3
  clear HP x0 x1
  rcases hp3 with ⟨hr3, A2, n2, c2, rfl, hn2, hm2, ho2, hb3⟩ | ⟨hr3, rfl, hb3⟩
  case' inl =>
    have HI3 := Lib.hid (HI2.out.via hb3)
    have HO3 := Lib.hid ho2
    have HN2 := Lib.hid hn2
    have hcp := own_cap ho2
    obtain ⟨hc1, hc2⟩ := hcp
    have HRT := Lib.hid hr3
    rw [hr3] at HRG
    clear hb3 ho2 hn2 HI2 hr3
    obtain ⟨x0, x1⟩ := HI3.out.cells
    go_wp2_with fail
    refine (HRG.out w3 HI3.out).mono ?_
    rintro e w4 ⟨rfl, hb4⟩
    have HI4 := Lib.hid (HI3.out.via hb4)
    have ho4 := own_via HO3.out hb4
    have HC := Lib.hid (frmCut A2 n2 c2 (Frm.recB ⟨st, X.map (·.c)⟩) R w4 (Rd.of_own ho4) HN2.out hc1 hc2 (by omega) ⟨hR1, by omega⟩)
    have HCL := Lib.hid (Frm.cutF_len R hR1 _ (Frm.recB ⟨st, X.map (·.c)⟩) (Nat.le_refl _) 1 0#32)
    have HCF := Lib.hid (Frm.cut_fits R hR1 _ (Frm.recB ⟨st, X.map (·.c)⟩) (Nat.le_refl _) 1 0#32)
    have HJC := Lib.hid (Frm.join_cut R hR1 (by omega) _ (Frm.recB ⟨st, X.map (·.c)⟩) (Nat.le_refl _) 0 1 0#32 [] [] (by omega) (by omega))
    rw [List.append_nil, List.nil_append, Nat.zero_add] at HJC
    clear hb4 ho4 HO3 HI3 HRG x0 x1
    go_wp2_with fail
    refine HC.out.mono ?_
    rintro e w5 ⟨A5, n5, c5, L5, rfl, hL5, hn5, ho5, hr5, hb5⟩
    have HI5 := Lib.hid (HI4.out.via hb5)
    have hn5' : n5 ≤ 100001 := by
      have := HCL.out
      rw [← hL5, List.length_map, hn5, HN2.out] at this
      omega
    have HJ := Lib.hid (frmJoin A5 n5 c5 L5 w5 (Rd.of_own ho5) hr5.at hn5 (by omega) (fun r hr => by
      obtain ⟨j, hj, rfl⟩ := List.getElem_of_mem hr
      have h3 := (HCF.out j (by rw [← hL5, List.length_map]; exact hj)).1
      simp only [← hL5, List.getElem_map] at h3
      rw [← (hr5.at _ (List.getElem_mem hj)).len]
      omega))
    rw [← hL5, List.length_map, hn5] at HJC
    rw [HJC.out] at HJ
    clear hL5 hn5 ho5 hr5 hb5 HI4 HC HCL HCF HJC
    go_wp2_with fail
    refine HJ.out.mono ?_
    rintro e w6 ⟨A6, n6, c6, rfl, hn6, ho6, hb6⟩
    simp only at hn6 ho6
    have HI6 := Lib.hid (HI5.out.via hb6)
    have hcp6 := own_cap ho6
    have HG := Lib.hid (frmGet A6 n6 c6 (Frm.recB ⟨st, X.map (·.c)⟩) w6 ⟨Rd.of_own ho6, hn6, hcp6.1, hcp6.2, by have := HN2.out; omega⟩)
    clear hn6 ho6 hb6 hcp6 HI5 HJ HN2
    go_wp2_with fail
    refine HG.out.mono ?_
    rintro e w7 ⟨S7, A7, k7, xs7, rfl, hg7, hrd7, hat7, hb7⟩
    have hge : Frm.getR (Frm.recB ⟨st, X.map (·.c)⟩) = (⟨st, X.map (·.c)⟩, 0) := Frm.getR_put HRT.out hst HGN.out
    rw [hge] at hg7 ⊢
    obtain ⟨rfl, hxs⟩ : S7 = st ∧ X.map (·.c) = xs7.map (·.c) := by
      have := congrArg Prod.fst hg7
      exact ⟨(congrArg Frm.Rcd.stamp this).symm, congrArg Frm.Rcd.chs this⟩
    have hxl : xs7.length = n := by
      have := congrArg List.length hxs
      rw [List.length_map, List.length_map, HL.out] at this
      exact this.symm
    rw [hxl]
    have HI7 := Lib.hid (HI6.out.via hb7)
    have HB8 := Lib.hid ((Below.refl w7.heap.size w7).alloc (Nat.le_refl _) (.cells #[.int .u64 (S7 : Int), .slice A7 n k7] 25))
    have HI8 := Lib.hid (HI7.out.via HB8.out)
    have HR8 := Lib.hid ((hrd7.below HB8.out).more HB8.out.size)
    have HA8 := Lib.hid fun x hx => ((hat7 x hx).below HB8.out).more HB8.out.size
    have HC8 := Lib.hid (Blk.new w7 25 #[.int .u64 (S7 : Int), .slice A7 n k7])
    have HXS := Lib.hid hxs
    have HXL := Lib.hid hxl
    clear hge hg7 hrd7 hat7 hb7 hxs hxl HI6 HI7 HG HB8
    obtain ⟨x0, x1⟩ := HI8.out.cells
    have y0 := HC8.out.cell 0
    have y1 := HC8.out.cell 1
    simp only [List.getElem?_toArray, List.getElem?_cons_zero, List.getElem?_cons_succ] at y0 y1
    have HSM := Lib.hid (refSameR S7 A7 A n k7 k xs7 X _ HR8.out (HRB.out _ HI8.out) HA8.out (HXB.out _ HI8.out) HXL.out HXS.out.symm (by omega))
    go_wp2_with fail
    refine HSM.out.mono ?_
    rintro e w9 ⟨rfl, hb9⟩
    have HI9 := Lib.hid (HI8.out.via hb9)
    clear hb9 HSM HI8 HR8 HA8 HC8 HXS HXL x0 x1 y0 y1 HRT hm2
    go_upto_region 12 with fail
  case' inr =>
    have HI3 := Lib.hid (HI2.out.via hb3)
    rw [hr3] at HRG
    clear hb3 HI2 hr3
    obtain ⟨x0, x1⟩ := HI3.out.cells
    go_wp2_with fail
    refine (HRG.out w3 HI3.out).mono ?_
    rintro e w9 ⟨rfl, hb9⟩
    have HI9 := Lib.hid (HI3.out.via hb9)
    clear hb9 HI3 HRG x0 x1
    go_upto_region 12 with fail
  all_goals
    have HSB := Lib.hid (frmGet Ab nb cb b w9 ⟨(HBR.out.below HI9.out.bel).more HI9.out.bel.size, HBL.out, hbc, hbm, by omega⟩)
    clear HRB HXB HXA HGN HL
    go_wp2_with fail
    refine HSB.out.mono ?_
    rintro e wa ⟨Sa, Aa, ka, xsa, rfl, hga, hrda, hata, hba⟩
    have HIA := Lib.hid (HI9.out.bel.via hba)
    have HBC := Lib.hid ((Below.refl wa.heap.size wa).alloc (Nat.le_refl _) (.cells #[.int .u64 (Sa : Int), .slice Aa xsa.length ka] 25))
    have HIC := Lib.hid (HIA.out.via HBC.out)
    have HCC := Lib.hid (Blk.new wa 25 #[.int .u64 (Sa : Int), .slice Aa xsa.length ka])
    have y0 := HCC.out.cell 0
    have y1 := HCC.out.cell 1
    simp only [List.getElem?_toArray, List.getElem?_cons_zero, List.getElem?_cons_succ] at y0 y1
    by_cases he : (Frm.getR b).2 = 0
    · obtain ⟨o1, o2, o3, o4⟩ := Frm.getR_ok he
      rw [hga] at o1 o2 o3 o4
      simp only at o1 o2 o3 o4
      have hxl : xsa.length ≤ 16 := by
        unfold Frm.right at o1
        rw [Bool.and_eq_true, decide_eq_true_iff] at o1
        simpa using o1.2
      have HPA := Lib.hid (frmPut Sa Aa xsa.length ka xsa _ ((hrda.below HBC.out).more HBC.out.size) (fun x hx => ((hata x hx).below HBC.out).more HBC.out.size) rfl (by omega) o3)
      have HRE := Lib.hid o1
      have HEB := Lib.hid o2
      rw [he]
      obtain ⟨na, hna⟩ : ∃ na, xsa.length = na := ⟨_, rfl⟩
      rw [hna] at HPA HBC HIC HCC y0 y1 hxl ⊢
      clear hga hrda hata hba o1 o2 o3 o4 HIA HSB HI9 HBC hna
      go_wp2_with fail
      refine HPA.out.mono ?_
      rintro e wb hpb
      have hpb := hpb.resolve_right (fun h => by rw [HRE.out] at h; cases h.1)
      obtain ⟨_, Ad, nd, cd, rfl, hnd, hmd, hod, hbd⟩ := hpb
      rw [HEB.out] at hnd hod
      have HID := Lib.hid (HIC.out.via hbd)
      have s1 : (convert 26 9 (.slice Ad nd cd)).run Try.prog wb = .ok (.string ⟨b.toArray⟩) wb := str_run (Rd.of_own hod) (Below.refl _ _) (Nat.le_refl _) hnd cd
      have s2 : (convert 26 9 (.slice Ab nb cb)).run Try.prog wb = .ok (.string ⟨b.toArray⟩) wb := str_run ((HBR.out.below HID.out).more HID.out.size) (Below.refl _ _) (Nat.le_refl _) HBL.out cb
      clear hnd hod hbd HPA HIC HCC y0 y1 HRE HEB
      go_wp2_with fail
      refine (HFR.out wb).mono ?_
      rintro e wz ⟨rfl, hbz⟩
      have HBZ := Lib.hid (HID.out.via hbz)
      clear hbz s1 s2
      go_wp2
      go_ret
      exact ⟨rfl, HBZ.out⟩
    · have hxs : xsa = [] := by
        have h1 := Frm.getR_err he
        rw [hga] at h1
        simpa using h1
      subst hxs
      have hne : ((((Frm.getR b).2 : Nat) : Int) != 0) = true := by simp; omega
      generalize (Frm.getR b).2 = er at *
      clear hga hrda hata hba HIA HSB HI9 HBC he
      go_wp2_with fail
      refine (HFR.out _).mono ?_
      rintro e wz ⟨rfl, hbz⟩
      have HBZ := Lib.hid (HIC.out.via hbz)
      clear hbz
      go_wp2
      go_ret
      exact ⟨rfl, HBZ.out⟩
end Cib
