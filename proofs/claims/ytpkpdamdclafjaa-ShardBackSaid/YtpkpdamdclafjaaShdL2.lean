/- The law ShardBack. -/
import Derived.Test.YtpkpdamdclafjaaShdLaw
import Derived.Test.YtpkpdamdclafjaaShdE
import Derived.Test.YtpkpdamdclafjaaShdY
import Derived.Test.YtpkpdamdclafjaaZeros
set_option linter.unusedVariables false
set_option linter.unusedSimpArgs false
set_option maxRecDepth 40000
namespace Cib
open Go Go.RowKit Go.Proofs

set_option maxHeartbeats 2000000 in
theorem lawBack (s : Shd.Sh) (hs : s.ok) (A : Option Addr) (cap : Nat) (bs : List UInt8) (w : World) (h : Rd w w.heap.size A (bs.map bv)) (hcap : bs.length ≤ cap) (hcm : cap ≤ maxLen) :
    Calls Try.prog 6 #[.agg (shC s), .slice A bs.length cap] w fun e w' => e = .returned (.bool true) ∧ Below w.heap.size w w' := by
  have HL := Lib.hid (fun W => lies W)
  have hcm' := hcm
  unfold maxLen at hcm'
  by_cases hlt : 60 < bs.length
  · generalize shC s = C at *
    go_enter Try.func6, Try.ntmps6
    go_wp2_with fail
    refine (HL.out _).mono ?_
    rintro e w' ⟨rfl, hb⟩
    go_wp2
    go_ret
    exact ⟨rfl, ((Below.refl _ _).alloc (Nat.le_refl _) _).trans (hb.mono (by simp))⟩
  have HP := Lib.hid (fun W => shdPut s hs W)
  have HSZ := Lib.hid (shCsize s hs)
  have HO := Lib.hid (shC_one s)
  have HZ := Lib.hid shdZero
  have HBU := Lib.hid shdBuilt
  have HZS := Lib.hid (shCsize Shd.nul Shd.nul_ok)
  have HZO := Lib.hid (shC_one Shd.nul)
  have heqz := fun W => run_shdEql Shd.nul Shd.nul_ok W
  have hneC := fun W => run_shdNeq s hs W
  have h0 := shC0 s
  have h1 := shC1 s
  have h2 := shC2 s
  have h3 := shC3 s
  have HIS := Lib.hid (fun W => shdIs 14 (.inl rfl) s hs (s.kind : Int) (s.place : Int) (s.gen : Int) (s.idx : Int) W)
  have HIB : Hid (isB s (s.kind : Int) (s.place : Int) (s.gen : Int) (s.idx : Int) = true) := by (show _ = _; simp [isB])
  rw [HIB.out] at HIS
  obtain ⟨C, hC⟩ : ∃ C, Hid (shC s = C) := ⟨_, rfl⟩
  obtain ⟨Z, hZ⟩ : ∃ Z, Hid (shC Shd.nul = Z) := ⟨_, rfl⟩
  rw [hC.out] at HP HSZ HO hneC h0 h1 h2 h3 HIS ⊢
  rw [hZ.out] at HZ HBU HZS HZO heqz
  obtain ⟨x60, HX⟩ : ∃ x : List UInt8, Hid ((bs ++ List.replicate 60 (0 : UInt8)).take 60 = x) := ⟨_, rfl⟩
  have HXL : Hid (x60.length = 60) := by (show _ = _; rw [← HX.out]; simp)
  have hb0 : s.place < 65536 := hs.2.2.1
  have hb1 : s.kind < 256 := hs.1
  have hb2 : s.idx < 256 := hs.2.1
  have HSO := Lib.hid hs
  have HER : Hid ((Shd.kindB s.kind = true ∧ Shd.putS s = (Shd.closed (Shd.core s), 0)) ∨ (¬ Shd.kindB s.kind = true ∧ Shd.putS s = ([], 2))) := by
    by_cases hk : Shd.kindB s.kind = true
    · exact .inl ⟨hk, if_pos hk⟩
    · exact .inr ⟨hk, if_neg hk⟩
  obtain ⟨q, er, HPS⟩ : ∃ q er, Hid (Shd.putS s = (q, er)) := ⟨_, _, rfl⟩
  rw [HPS.out] at HP HER
  simp only at HP
  have HGP := Lib.hid (fun (hk : Shd.kindB s.kind = true) => Shd.get_put hs hk)
  go_enter Try.func6, Try.ntmps6
  go_wp2_with (refine wpList_load_row rfl 26 (.tmp 2) rfl w.heap.size rfl 26 C (0, 0) _ (Blk.new _ _ _) Try.underlying26 rfl (by rw [HSZ.out]; exact shdInfo) ?_)
  refine (HP.out _).mono ?_
  rintro e w2 ⟨A2, n2, c2, rfl, hn2, ho2, hb2'⟩
  have hv2 := (Blk.new w 26 C).below hb2' (by simp)
  have hbw : Below w.heap.size w w2 := ((Below.refl _ _).alloc (Nat.le_refl _) _).trans (hb2'.mono (by simp))
  have HN2 := Lib.hid hn2
  clear hb2' hn2
  go_upto_if 24 with fail
  go_cut [] (fun wx => Below w.heap.size w wx)
  case first =>
    rcases HER.out with ⟨hk, hq⟩ | ⟨hk, hq⟩
    · injection hq with hq1 hq2
      subst hq1 hq2
      have HGE := HGP.out hk
      have hcp := own_cap ho2
      have hr2 := Rd.of_own ho2
      have HGet := Lib.hid (shdGet A2 c2 (Shd.closed (Shd.core s)) w2 _ hr2 HN2.out hcp.1 hcp.2 (Nat.le_refl _))
      unfold GetOut at HGet
      rw [HGE, hC.out] at HGet
      simp only at HGet
      clear HGE hk HGP HP HPS HER ho2 hr2 hcp HN2
      go_wp2_with fail
      refine HGet.out.mono ?_
      rintro e w3 ⟨rfl, hb3⟩
      have hv3 := hv2.below hb3 hv2.lt
      replace hbw := hbw.via hb3
      clear hb3 hv2 HGet
      go_upto_region 6 with (first | (refine wpList_allocAs rfl 26 rfl Z HZ.out ?_) | (refine wpList_store_row rfl 26 _ _ rfl w3.heap.size C rfl rfl 26 Z (Blk.new _ _ _) (by rw [HSZ.out]; exact shdInfo) (by rw [HZS.out, HSZ.out]) HO.out ?_))
      have hv4 := (hv3.alloc (.cells Z 26)).rowFar (g' := w3.heap.size) (by have := hv3.lt; omega) C
      have hg4 := (Blk.new w3 26 Z).row C
      replace hbw := below_setRow (hbw.alloc hbw.size (.cells Z 26)) hbw.size C
      generalize (w3.alloc (.cells Z 26)).setRow w3.heap.size C = w4 at *
      generalize w3.heap.size = g at *
      have hc0 := (hv4.cell 0).trans h0
      have hc1 := (hv4.cell 1).trans h1
      have hc2 := (hv4.cell 2).trans h2
      have hc3 := (hv4.cell 3).trans h3
      go_wp2_with (first | (refine wpList_load_rowG rfl 26 (.tmp 7) rfl g rfl 26 C (0, 0) _ hg4 Try.underlying26 rfl (by rw [HSZ.out]; exact shdInfo) ?_) | (refine wpList_load_rowG rfl 26 (.tmp 2) rfl w.heap.size rfl 26 C (0, 0) _ hv4 Try.underlying26 rfl (by rw [HSZ.out]; exact shdInfo) ?_) | (go_at_call 14; refine (HIS.out _).mono ?_; rintro e w5 ⟨rfl, hb5⟩))
      go_meet
      exact hbw.via hb5
    · injection hq with hq1 hq2
      subst hq1 hq2
      have hc0 := (hv2.cell 0).trans h0
      clear HGP HP HPS HER ho2 HN2 HIS hneC
      rcases kindB_not hk with hk' | hk'
      · rw [hk'] at hc0
        go_wp2
        go_meet
        exact hbw
      · have hd : decide ((s.kind : Int) ≤ 4) = false := by simp; omega
        go_wp2
        go_meet
        exact hbw
  case rest =>
    have hbc : Below w.heap.size w wc := hcut
    clear hcut hbw ho2 hv2 HIS hneC h0 h1 h2 h3 HGP HP HER HPS HN2 HSO HIB hC HO HSZ hb0 hb1 hb2
    have hbz := hbc.size
    go_wp2_with (first | (at_builtin; refine appB _ rfl (.tmp 61) (.tmp 62) rfl w.heap.size (some ⟨wc.heap.size, 0, none⟩) 0 0 [] rfl (World.ownsRow_made wc #[] 0 hbz (Nat.zero_le _) rfl) _ A bs.length cap _ rfl (by simp) ((h.below hbc).alloc hbz _) one_bytes (by omega) (by simp; omega) ?_; intro A3 c3 w3 ho3 hg3 hb3; rw [Nat.zero_add] at ho3 ⊢; rw [List.nil_append] at ho3) | (at_builtin; refine appZ _ rfl (.tmp 63) (.const (.int .i64 60)) rfl w.heap.size A3 bs.length c3 _ rfl ho3 60 rfl (by decide) (by omega) (by have := hb3.size; simp at this; omega) ?_; intro A4 c4 w4 ho4 hb4; have h60 := (own_cap ho4).1; have h61 : 60 ≤ c4 := by omega))
    have hb34 : Below w.heap.size w w4 := ((hbc.alloc hbz (.cells #[] 5)).trans hb3).trans hb4
    have hrx : Rd w4 w4.heap.size A4 (x60.map bv) := by
      have := (Rd.of_own ho4).take 60
      rw [← HX.out, List.map_take, List.map_append, List.map_replicate]
      exact this
    have hbz4 := hb34.size
    have HGC := Lib.hid (Shd.get_closed HXL.out)
    clear ho3 hg3 hb3 ho4 hb4 h60 hbc hbz HX
    refine (refClosed A4 c4 x60 w4 _ hrx HXL.out (Nat.le_refl _) (by decide)).mono ?_
    rintro e w5 ⟨A5, n5, c5, rfl, hn5, ho5, hb5⟩
    have hn5' : n5 = 64 := by rw [← hn5, Shd.closed_length, HXL.out]
    subst hn5'
    have HN5 := Lib.hid hn5
    have hcp := own_cap ho5
    have hr5 := Rd.of_own ho5
    replace hb5 := hb34.via hb5
    have HGet := Lib.hid (shdGet A5 c5 (Shd.closed x60) w5 _ hr5 hn5 hcp.1 hcp.2 (Nat.le_refl _))
    unfold GetOut at HGet
    clear hn5 ho5 hb34 hrx h61 hbz4 hcp
    go_wp2_with fail
    rcases HGC.out with hg | ⟨hg0, hgo, hgp⟩
    · rw [hg, hZ.out] at HGet
      simp only at HGet
      clear hg HGC
      refine HGet.out.mono ?_
      rintro e w6 ⟨rfl, hb6⟩
      replace hb6 := hb5.via hb6
      clear hb5 hr5 HGet HN5
      go_upto_region 13 with (first | (refine wpList_allocAs rfl 26 rfl Z HZ.out ?_) | (refine wpList_store_row rfl 26 _ _ rfl w6.heap.size Z rfl rfl 26 Z (Blk.new _ _ _) (by rw [HZS.out]; exact shdInfo) rfl HZO.out ?_))
      have hg7 := (Blk.new w6 26 Z).row Z
      replace hb6 := below_setRow (hb6.alloc hb6.size (.cells Z 26)) hb6.size Z
      generalize (w6.alloc (.cells Z 26)).setRow w6.heap.size Z = w7 at *
      generalize w6.heap.size = g at *
      go_wp2_with (first | (refine wpList_load_row rfl 26 (.tmp 10) rfl g rfl 26 Z (0, 0) _ hg7 Try.underlying26 rfl (by rw [HZS.out]; exact shdInfo) ?_) | (refine wpList_buildAs rfl 26 _ rfl Z HBU.out (by simp [go_sem]) ?_) | (go_at_call 8; refine (HL.out _).mono ?_; rintro e w8 ⟨rfl, hb8⟩))
      go_ret
      exact ⟨rfl, hb6.via hb8⟩
    · generalize Shd.getS (Shd.closed x60) = pp at *
      obtain ⟨p, ep⟩ := pp
      simp only at hg0 hgo hgp HGet
      subst hg0
      have HP := Lib.hid (fun W => shdPut p hgo W)
      rw [hgp] at HP
      simp only at HP
      have HDS := Lib.hid (shCsize p hgo)
      have HDO := Lib.hid (shC_one p)
      clear HGC hgo hgp
      generalize shC p = D at *
      refine HGet.out.mono ?_
      rintro e w6 ⟨rfl, hb6⟩
      have hr6 := (hr5.below hb6).more hb6.size
      replace hb6 := hb5.via hb6
      clear hb5 hr5 HGet
      go_upto_region 14 with (first | (refine wpList_allocAs rfl 26 rfl Z HZ.out ?_) | (refine wpList_store_row rfl 26 _ _ rfl w6.heap.size D rfl rfl 26 Z (Blk.new _ _ _) (by rw [HDS.out]; exact shdInfo) (by rw [HZS.out, HDS.out]) HDO.out ?_))
      have hg7 := (Blk.new w6 26 Z).row D
      have hr7 := hr6.below (below_setRow ((Below.refl w6.heap.size w6).alloc (Nat.le_refl _) (.cells Z 26)) (Nat.le_refl _) D)
      have hz7 : w6.heap.size ≤ ((w6.alloc (.cells Z 26)).setRow w6.heap.size D).heap.size := by simp
      replace hr7 := hr7.more hz7
      replace hb6 := below_setRow (hb6.alloc hb6.size (.cells Z 26)) hb6.size D
      clear hz7
      generalize (w6.alloc (.cells Z 26)).setRow w6.heap.size D = w7 at *
      generalize w6.heap.size = g at *
      go_wp2_with (refine wpList_load_row rfl 26 (.tmp 10) rfl g rfl 26 D (0, 0) _ hg7 Try.underlying26 rfl (by rw [HDS.out]; exact shdInfo) ?_)
      refine (HP.out _).mono ?_
      rintro e w8 ⟨A8, n8, c8, rfl, hn8, ho8, hb8⟩
      have hs1 := run_str (P := Try.prog) 28 9 5 Try.underlying28 Try.underlying5 Try.underlying9 (Rd.of_own ho8) hn8 c8
      have hs2 := run_str (P := Try.prog) 28 9 5 Try.underlying28 Try.underlying5 Try.underlying9 (hr7.below hb8) HN5.out c5
      replace hb6 := hb6.via hb8
      clear hr6 hr7 hg7 ho8 hb8 HP HN5 hn8
      generalize Shd.closed x60 = xs at *
      go_wp2_with (go_at_call 8; refine (HL.out _).mono ?_; rintro e w9 ⟨rfl, hb9⟩)
      go_ret
      exact ⟨rfl, hb6.via hb9⟩
end Cib
