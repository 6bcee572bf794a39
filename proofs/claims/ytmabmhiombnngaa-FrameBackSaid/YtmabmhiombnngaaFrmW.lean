/- Pieces of a text: summed, piece, Cut. -/
import Derived.Test.YtmabmhiombnngaaFrmP
import Derived.Test.YtmabmhiombnngaaNumG
import Derived.Test.YtmabmhiombnngaaCrcS
import Derived.Test.YtmabmhiombnngaaRowsN
import Derived.Test.YtmabmhiombnngaaReg
set_option linter.unusedVariables false
set_option linter.unusedSimpArgs false
set_option maxRecDepth 20000
namespace Cib
open Go Go.RowKit Go.Proofs
theorem put_head (m : Nat) (b : List UInt8) (n : Nat) (hn : b.length = n) : Num.put [UInt8.ofNat m] 2 n = Frm.head m b := by
  subst hn
  rfl
theorem u8_toNat {m : Nat} (h : m ≤ 255) : (UInt8.ofNat m).toNat = m := by rw [UInt8.toNat_ofNat', Nat.mod_eq_of_lt (by omega)]
set_option maxHeartbeats 1000000 in
theorem frmSummed (s : BitVec 32) (m : Nat) (A : Option Addr) (n c : Nat) (b : List UInt8) (w : World) (hm : m ≤ 255) (h : Rd w w.heap.size A (b.map bv)) (hl : b.length = n) (hn : n ≤ 1000000000) :
    Calls Try.prog 24 #[.int .u32 (s.toNat : Int), .int .u8 (m : Int), .slice A n c] w fun e w' => e = .returned (.int .u32 ((Frm.sum s m b).toNat : Int)) ∧ Below w.heap.size w w' := by
  have HRD := Lib.hid h
  have HL := Lib.hid hl
  have hal := (Below.refl w.heap.size w).alloc (Nat.le_refl _) (.cells #[.int .u8 (m : Int)] 5)
  have HAL := Lib.hid hal
  have hrn : Rd (w.alloc (.cells #[.int .u8 (m : Int)] 5)) (w.heap.size + 1) (some ⟨w.heap.size, 0, none⟩) ([UInt8.ofNat m].map bv) := Rd.new w _ _ _ (by simp [bv, u8_toNat hm])
  have HP := Lib.hid (Go.Proofs.Ytmabmhiombnngaa.numPut (some ⟨w.heap.size, 0, none⟩) 1 [UInt8.ofNat m] 2 n (w.alloc (.cells #[.int .u8 (m : Int)] 5)) (w.heap.size + 1) hrn (len := 1) rfl (by simp) ⟨by decide, by decide⟩ (by omega) (by decide))
  rw [put_head m b n hl] at HP
  clear h hl hal hrn
  go_enter Try.func24, Try.ntmps24
  go_wp2_with fail
  refine HP.out.mono ?_
  rintro e w3 ⟨A3, n3, c3, rfl, hn3, ho3, hb3⟩
  have hn3' : n3 = 3 := by rw [← hn3, Frm.head_length]
  subst hn3'
  have HO3 := Lib.hid ho3
  have HB3 := Lib.hid (HAL.out.trans (hb3.mono HAL.out.size))
  have hz3 := hb3.size
  clear hn3 ho3 hb3 HP HAL
  go_wp2_with (at_builtin; go_loud (refine appB _ rfl (.tmp 13) (.tmp 14) rfl _ A3 3 c3 _ rfl HO3.out _ A n c (b.map bv) rfl (by rw [List.length_map]; exact HL.out) (HRD.out.below HB3.out) one_bytes (by omega) hz3 ?_; intro A4 c4 w4 ho4 hg4 hb4; have HO4 := Lib.hid ho4; have HB4 := Lib.hid (HB3.out.trans (hb4.mono (by simp))); clear ho4 hg4 hb4))
  rw [← List.map_append] at HO4
  refine (Go.Proofs.Ytmabmhiombnngaa.crcMore s A4 c4 (Frm.head m b ++ b) w4 _ (Rd.of_own HO4.out) (by rw [List.length_append, Frm.head_length, HL.out]; unfold maxLen; omega) (by rw [List.length_append, Frm.head_length, HL.out])).mono ?_
  rintro e w5 ⟨rfl, rfl⟩
  go_wp2
  go_ret
  exact ⟨rfl, HB4.out⟩
set_option maxHeartbeats 1000000 in
theorem frmPiece (s : BitVec 32) (m : Nat) (A : Option Addr) (n c : Nat) (b : List UInt8) (w : World) (hm : m ≤ 255) (h : Rd w w.heap.size A (b.map bv)) (hl : b.length = n) (hn : n ≤ 1000000000) :
    Calls Try.prog 25 #[.int .u8 (m : Int), .slice A n c, .int .u32 (s.toNat : Int)] w (NewB (Frm.pc m b s) w) := by
  have HRD := Lib.hid h
  have HL := Lib.hid hl
  have hs32 := s.isLt
  have hal := (Below.refl w.heap.size w).alloc (Nat.le_refl _) (.cells #[.int .u8 (m : Int)] 5)
  have HAL := Lib.hid hal
  have hrn : Rd (w.alloc (.cells #[.int .u8 (m : Int)] 5)) (w.heap.size + 1) (some ⟨w.heap.size, 0, none⟩) ([UInt8.ofNat m].map bv) := Rd.new w _ _ _ (by simp [bv, u8_toNat hm])
  have HP := Lib.hid (Go.Proofs.Ytmabmhiombnngaa.numPut (some ⟨w.heap.size, 0, none⟩) 1 [UInt8.ofNat m] 2 n (w.alloc (.cells #[.int .u8 (m : Int)] 5)) (w.heap.size + 1) hrn (len := 1) rfl (by simp) ⟨by decide, by decide⟩ (by omega) (by decide))
  rw [put_head m b n hl] at HP
  clear h hl hal hrn
  go_enter Try.func25, Try.ntmps25
  go_wp2_with fail
  refine HP.out.mono ?_
  rintro e w3 ⟨A3, n3, c3, rfl, hn3, ho3, hb3⟩
  have hn3' : n3 = 3 := by rw [← hn3, Frm.head_length]
  subst hn3'
  have HQ := Lib.hid (Go.Proofs.Ytmabmhiombnngaa.numPut A3 c3 (Frm.head m b) 4 s.toNat w3 w3.heap.size (Rd.of_own ho3) hn3 (Nat.le_refl _) ⟨by decide, by decide⟩ (by omega) (by decide))
  have HB3 := Lib.hid (HAL.out.trans (hb3.mono HAL.out.size))
  clear hn3 ho3 hb3 HP HAL
  go_wp2_with fail
  refine HQ.out.mono ?_
  rintro e w5 ⟨A5, n5, c5, rfl, hn5, ho5, hb5⟩
  have he5 : Num.put (Frm.head m b) 4 s.toNat = Frm.head m b ++ Num.leB s.toNat 4 := rfl
  rw [he5] at hn5 ho5
  have hn5' : n5 = 7 := by rw [← hn5, List.length_append, Frm.head_length, Num.leB_length]
  subst hn5'
  have HO5 := Lib.hid ho5
  have HB5 := Lib.hid (HB3.out.via hb5)
  have hz5 := hb5.size
  have hz3 := HB3.out.size
  clear hn5 ho5 hb5 HQ HB3
  go_wp2_with (at_builtin; go_loud (refine appB _ rfl (.tmp 17) (.tmp 18) rfl _ A5 7 c5 _ rfl HO5.out _ A n c (b.map bv) rfl (by rw [List.length_map]; exact HL.out) (HRD.out.below HB5.out) one_bytes (by omega) hz5 ?_; intro A4 c4 w4 ho4 hg4 hb4; have HO4 := Lib.hid ho4; have HB4 := Lib.hid (HB5.out.trans (hb4.mono hz3)); clear ho4 hg4 hb4))
  rw [← List.map_append] at HO4
  go_ret
  refine ⟨A4, 7 + n, c4, rfl, by rw [Frm.pc_length, HL.out], ?_, HB4.out⟩
  have := own_lower1 HO4.out hz3
  unfold Frm.pc
  rw [← List.append_assoc]
  exact this
end Cib
