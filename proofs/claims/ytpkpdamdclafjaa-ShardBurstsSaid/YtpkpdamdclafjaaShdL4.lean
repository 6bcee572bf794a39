/- The law ShardBursts. -/
import Derived.Test.YtpkpdamdclafjaaShdLaw
import Derived.Test.YtpkpdamdclafjaaShdE
import Derived.Test.YtpkpdamdclafjaaShdA
import Derived.Test.YtpkpdamdclafjaaShdB
set_option linter.unusedVariables false
set_option linter.unusedSimpArgs false
set_option maxRecDepth 40000
namespace Cib
open Go Go.RowKit Go.Proofs
theorem clamp60 (a : Int) : ∃ K : Nat, Hid (max 0 (min a 60) = (K : Int)) ∧ K ≤ 60 := by
  refine ⟨(max 0 (min a 60)).toNat, ?_, by omega⟩
  unfold Hid
  omega
/-- A mask's byte. -/
theorem mask_byte (m k : Nat) : UInt8.ofNat (m / 256 ^ k) = (Num.leB m (k + 1)).getD k 0 := by
  induction k generalizing m with
  | zero => simp [Num.leB_cons]
  | succ k ih =>
    rw [Num.leB_cons, Nat.pow_succ, Nat.mul_comm, ← Nat.div_div_eq_div_mul, ih]
    rfl
theorem mask_get (m k : Nat) (h : k < 4) : (Num.leB m 4).getD k 0 = UInt8.ofNat (m / 256 ^ k) := by
  have : k = 0 ∨ k = 1 ∨ k = 2 ∨ k = 3 := by omega
  rcases this with rfl | rfl | rfl | rfl <;> simp [Num.leB_cons, Num.leB_nil, Nat.div_div_eq_div_mul]
theorem u8_byte_xor (x : UInt8) (n : Nat) : bits .xor .u8 (x.toNat : Int) ((n : Int) % 256) = ((x ^^^ UInt8.ofNat n).toNat : Int) := by
  have e : (n : Int) % 256 = ((UInt8.ofNat n).toNat : Int) := by rw [UInt8.toNat_ofNat']; omega
  rw [e, u8_xor_nat _ _ x.toNat_lt (UInt8.toNat_lt _), UInt8.toNat_xor]
theorem own_base {w : World} {base b : Nat} {e : TypeId} {v : Value} {n : Nat} {xs : List Value} (h : w.ownsRow b e 1 v n xs) (hb : base ≤ b) : w.ownsRow base e 1 v n xs := by
  refine ⟨h.1, ?_⟩
  rcases h.2 with h0 | ⟨g, cap, cur, hv, h1, h2⟩
  · exact .inl h0
  · exact .inr ⟨g, cap, cur, hv, Nat.le_trans hb h1, h2⟩
set_option maxHeartbeats 4000000 in
theorem lawSBursts (s : Shd.Sh) (hs : s.ok) (off : Int) (m : BitVec 32) (w : World) (ho : -9223372036854775808 ≤ off ∧ off ≤ 9223372036854775807) :
    Calls Try.prog 3 #[.agg (shC s), .int .i64 off, .int .u32 (m.toNat : Int)] w fun e w' => e = .returned (.bool true) ∧ Below w.heap.size w w' := by
  have HL := Lib.hid (fun W => lies W)
  have HP := Lib.hid (fun W => shdPut s hs W)
  have HSZ := Lib.hid (shCsize s hs)
  have HZ := Lib.hid shdZero
  have HBU := Lib.hid shdBuilt
  have HZS := Lib.hid (shCsize Shd.nul Shd.nul_ok)
  have HZO := Lib.hid (shC_one Shd.nul)
  have heqz := fun W => run_shdEql Shd.nul Shd.nul_ok W
  have HER : Hid ((Shd.kindB s.kind = true ∧ Shd.putS s = (Shd.closed (Shd.core s), 0)) ∨ (¬ Shd.kindB s.kind = true ∧ Shd.putS s = ([], 2))) := by
    by_cases hk : Shd.kindB s.kind = true
    · exact .inl ⟨hk, if_pos hk⟩
    · exact .inr ⟨hk, if_neg hk⟩
  have HCL := Lib.hid (Shd.core_length hs)
  obtain ⟨C, hC⟩ : ∃ C, Hid (shC s = C) := ⟨_, rfl⟩
  obtain ⟨Z, hZ⟩ : ∃ Z, Hid (shC Shd.nul = Z) := ⟨_, rfl⟩
  rw [hC.out] at HP HSZ ⊢
  rw [hZ.out] at HZ HBU HZS HZO heqz
  obtain ⟨q, er, HPS⟩ : ∃ q er, Hid (Shd.putS s = (q, er)) := ⟨_, _, rfl⟩
  rw [HPS.out] at HP HER
  simp only at HP
  go_enter Try.func3, Try.ntmps3
  go_wp2_with (refine wpList_load_row rfl 26 (.tmp 3) rfl w.heap.size rfl 26 C (0, 0) _ (Blk.new _ _ _) Try.underlying26 rfl (by rw [HSZ.out]; exact shdInfo) ?_)
  refine (HP.out _).mono ?_
  rintro e w2 ⟨A2, n2, c2, rfl, hn2, ho2, hb2'⟩
  have hbw : Below w.heap.size w w2 := ((Below.refl _ _).alloc (Nat.le_refl _) _).trans (hb2'.mono (by simp))
  clear hb2' HP
  rcases HER.out with ⟨hk, hq⟩ | ⟨hk, hq⟩
  · injection hq with hq1 hq2
    subst hq1 hq2
    by_cases h0 : m.toNat = 0
    · have h0' : ((m.toNat : Int) == 0) = true := by simp; omega
      clear HER HPS ho2
      go_wp2_with (go_at_call 8; refine (HL.out _).mono ?_; rintro e w8 ⟨rfl, hb8⟩)
      go_ret
      exact ⟨rfl, hbw.via hb8⟩
    · have h0' : ((m.toNat : Int) == 0) = false := by simp; omega
      obtain ⟨K, hK, hK60⟩ := clamp60 off
      have hn64 : n2 = 64 := by rw [← hn2, Shd.closed_length, HCL.out]
      subst hn64
      have HGB := Lib.hid (Shd.get_burst HCL.out K m.toNat m.isLt h0 hK60)
      clear HER HPS hk h0
      go_upto_region 6 with fail
      go_cut [9] (fun k wx => k = .int .i64 (K : Int) ∧ wx = w2)
      case first =>
        have hK' := hK.out
        clear hK HGB ho2
        go_wp2_with fail
        all_goals (go_meet; exact ⟨int_eq (by omega), rfl⟩)
      case rest =>
        obtain ⟨rfl, rfl⟩ := hcut
        have hml := m.isLt
        obtain ⟨mm, hmm⟩ : ∃ mm, m.toNat = mm := ⟨_, rfl⟩
        rw [hmm] at HGB hml h0'
        try rw [hmm]
        clear hmm hK
        replace ho2 := own_base (base := w.heap.size) ho2 (by simp)
        obtain ⟨g, rfl, hg⟩ := own_at ho2 (by omega)
        have hcp := own_cap ho2
        obtain ⟨T, hT⟩ : ∃ T, Shd.closed (Shd.core s) = T := ⟨_, rfl⟩
        rw [hT] at hn2 ho2 HGB
        clear hT
        go_wp2
        go_loopw [10] (fun i wr => ∃ k : Nat, k ≤ 4 ∧ i = .int .i64 k ∧ Below w.heap.size w wr ∧ wr.ownsRow w.heap.size 5 1 (.slice (some ⟨g, 0, none⟩) 64 c2) 64 ((Crc.chg T K (Num.leB mm 4) k).map bv)) (fun i _ => 4 - (intOf i).toNat)
        case atStart => exact ⟨0, Nat.zero_le _, rfl, hbw, ho2⟩
        case round =>
          clear hbw ho2
          obtain ⟨k, hk, rfl, hb, ho⟩ := hrel
          by_cases hlt : k < 4
          · have hj : K + k < (Crc.chg T K (Num.leB mm 4) k).length := by rw [Crc.chg_length, hn2]; omega
            obtain ⟨hc1, hf1, hset⟩ := own_byte ho hj
            have hnext : Hid (Crc.chg T K (Num.leB mm 4) (k + 1) = (Crc.chg T K (Num.leB mm 4) k).set (K + k) ((Crc.chg T K (Num.leB mm 4) k)[K + k] ^^^ UInt8.ofNat (mm / 256 ^ k))) := by
              unfold Hid
              rw [Crc.chg, mask_get mm k hlt]
              congr 2
              simp [List.getD, List.getElem?_eq_getElem hj]
            have HS := Lib.hid hset
            clear hset
            generalize (Crc.chg T K (Num.leB mm 4) k)[K + k] = x at *
            have hval := u8_byte_xor x (mm / 256 ^ k)
            obtain ⟨z, hz⟩ : ∃ z, Hid (x ^^^ UInt8.ofNat (mm / 256 ^ k) = z) := ⟨_, rfl⟩
            rw [hz.out] at hval hnext
            clear hj
            have : k = 0 ∨ k = 1 ∨ k = 2 ∨ k = 3 := by omega
            rcases this with rfl | rfl | rfl | rfl
            · simp only [Nat.add_zero] at hc1 hf1
              simp only [Nat.pow_zero, Nat.div_one] at hval
              go_wp2
              exact ⟨⟨1, by omega, by go_num, hb.setCell hg _, by rw [hnext.out]; exact HS.out z 0⟩, by simp [intOf]⟩
            · simp only [Nat.pow_one, Int.natCast_ediv, Int.cast_ofNat_Int] at hval
              go_wp2
              exact ⟨⟨2, by omega, by go_num, hb.setCell hg _, by rw [hnext.out]; exact HS.out z 0⟩, by simp [intOf]⟩
            · simp only [Nat.reducePow, Int.natCast_ediv, Int.cast_ofNat_Int] at hval
              go_wp2
              exact ⟨⟨3, by omega, by go_num, hb.setCell hg _, by rw [hnext.out]; exact HS.out z 0⟩, by simp [intOf]⟩
            · simp only [Nat.reducePow, Int.natCast_ediv, Int.cast_ofNat_Int] at hval
              rw [Int.emod_eq_of_lt (by omega) (by omega)] at hval
              go_wp2
              exact ⟨⟨4, by omega, by go_num, hb.setCell hg _, by rw [hnext.out]; exact HS.out z 0⟩, by simp [intOf]⟩
          · obtain rfl : k = 4 := by omega
            have hrd := Rd.of_own ho
            have hlen : (Crc.chg T K (Num.leB mm 4) 4).length = 64 := by rw [Crc.chg_length, hn2]
            clear ho
            generalize Crc.chg T K (Num.leB mm 4) 4 = y at *
            have HGet := Lib.hid (shdGet (some ⟨g, 0, none⟩) c2 y wr _ hrd hlen hcp.1 hcp.2 (Nat.le_refl _))
            unfold GetOut at HGet
            rw [HGB.out, hZ.out] at HGet
            simp only at HGet
            go_wp2_with fail
            refine HGet.out.mono ?_
            rintro e w4 ⟨rfl, hb4⟩
            go_upto_region 12 with (first | (refine wpList_allocAs rfl 26 rfl Z HZ.out ?_) | (refine wpList_store_row rfl 26 _ _ rfl w4.heap.size Z rfl rfl 26 Z (Blk.new _ _ _) (by rw [HZS.out]; exact shdInfo) rfl HZO.out ?_))
            have hb5 : Below wr.heap.size wr ((w4.alloc (.cells Z 26)).setRow w4.heap.size Z) := below_setRow (hb4.alloc hb4.size (.cells Z 26)) hb4.size Z
            have hg5 := (Blk.new w4 26 Z).row Z
            have hrd5 := (hrd.below hb5).more hb5.size
            replace hb := hb.via hb5
            clear hb5 hb4 HGet hrd
            generalize (w4.alloc (.cells Z 26)).setRow w4.heap.size Z = w5 at *
            generalize w4.heap.size = g5 at *
            have hl63 : (y.take 63).length = 63 := by rw [List.length_take]; omega
            have ht := hrd5.take 63
            rw [← List.map_take] at ht
            have hsl := fun W : World => run_cut_to (P := Try.prog) 28 5 Try.underlying28 sizeByte (some ⟨g, 0, none⟩) 64 c2 63 .i64 (by omega) W
            have h6c : (63 : Int) ≤ (c2 : Int) := by omega
            have HGet2 := Lib.hid (shdGet (some ⟨g, 0, none⟩) c2 (y.take 63) w5 _ ht hl63 (by omega) hcp.2 (Nat.le_refl _))
            unfold GetOut at HGet2
            rw [Shd.get_short (by rw [hl63]; decide), hZ.out] at HGet2
            simp only at HGet2
            go_wp2_with fail
            refine HGet2.out.mono ?_
            rintro e w6 ⟨rfl, hb6⟩
            have hg6 := hg5.below hb6 hg5.lt
            replace hb := hb.via hb6
            clear hg5 hb6 HGet2 hsl ht hrd5
            go_upto_region 13 with (first | (refine wpList_allocAs rfl 26 rfl Z HZ.out ?_) | (refine wpList_store_row rfl 26 _ _ rfl w6.heap.size Z rfl rfl 26 Z (Blk.new _ _ _) (by rw [HZS.out]; exact shdInfo) rfl HZO.out ?_))
            have hg7 := (hg6.alloc (.cells Z 26)).rowFar (g' := w6.heap.size) (by have := hg6.lt; omega) Z
            replace hb := below_setRow (hb.alloc hb.size (.cells Z 26)) hb.size Z
            generalize (w6.alloc (.cells Z 26)).setRow w6.heap.size Z = w7 at *
            generalize w6.heap.size = g6 at *
            clear hg6
            go_wp2_with (first | (refine wpList_load_rowG rfl 26 (.tmp 11) rfl g5 rfl 26 Z (0, 0) _ hg7 Try.underlying26 rfl (by rw [HZS.out]; exact shdInfo) ?_) | (refine wpList_buildG rfl 26 _ rfl Z HBU.out (by simp [go_sem]) ?_) | (go_at_call 8; refine (HL.out _).mono ?_; rintro e w8 ⟨rfl, hb8⟩))
            go_ret
            exact ⟨rfl, hb.via hb8⟩
  · injection hq with hq1 hq2
    subst hq1 hq2
    clear HER HPS ho2
    go_wp2_with (go_at_call 8; refine (HL.out _).mono ?_; rintro e w8 ⟨rfl, hb8⟩)
    go_ret
    exact ⟨rfl, hbw.via hb8⟩
end Cib
