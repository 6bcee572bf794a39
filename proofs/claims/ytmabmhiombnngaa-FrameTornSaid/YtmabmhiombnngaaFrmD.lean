/- The document's pieces: piece, Cut. -/
import Derived.Test.YtmabmhiombnngaaFrmC
import Derived.Test.YtmabmhiombnngaaNumR
import Derived.Test.YtmabmhiombnngaaCrcR
set_option linter.unusedVariables false
set_option linter.unusedSimpArgs false
set_option maxRecDepth 20000
namespace Cib
open Go Go.RowKit Go.Proofs
theorem more_two (s : BitVec 32) (a b : List UInt8) : Crc.more (Crc.more s a) b = Crc.more s (a ++ b) := by
  unfold Crc.more
  rw [BitVec.not_not, Crc.through_append]
set_option maxHeartbeats 1000000 in
theorem refPiece (s : BitVec 32) (m : Nat) (A : Option Addr) (n c : Nat) (b : List UInt8) (w : World) (hm : m ≤ 255) (h : Rd w w.heap.size A (b.map bv)) (hl : b.length = n) (hn : n ≤ 1000000000) :
    Calls Try.prog 31 #[.int .u8 (m : Int), .slice A n c, .int .u32 (s.toNat : Int)] w fun e w' => ∃ A' n' c', e = .returned (.tuple #[.slice A' n' c', .int .u32 ((Frm.sum s m b).toNat : Int)]) ∧ (Frm.pc m b (Frm.sum s m b)).length = n' ∧ w'.ownsRow w.heap.size 5 1 (.slice A' n' c') n' ((Frm.pc m b (Frm.sum s m b)).map bv) ∧ Below w.heap.size w w' := by
  have HRD := Lib.hid h
  have HL := Lib.hid hl
  have hal := (Below.refl w.heap.size w).alloc (Nat.le_refl _) (.cells #[.int .u8 (m : Int)] 5)
  have HAL := Lib.hid hal
  have hrn : Rd (w.alloc (.cells #[.int .u8 (m : Int)] 5)) (w.heap.size + 1) (some ⟨w.heap.size, 0, none⟩) ([UInt8.ofNat m].map bv) := Rd.new w _ _ _ (by simp [bv, u8_toNat hm])
  have HP := Lib.hid (Go.Proofs.Ytmabmhiombnngaa.refPut (some ⟨w.heap.size, 0, none⟩) 1 [UInt8.ofNat m] 2 n (w.alloc (.cells #[.int .u8 (m : Int)] 5)) (w.heap.size + 1) hrn (len := 1) rfl (by simp) ⟨by decide, by decide⟩ (by omega) (by decide))
  rw [put_head m b n hl] at HP
  have hsum : Frm.sum s m b = Crc.more (Crc.more s (Frm.head m b)) b := (more_two _ _ _).symm
  obtain ⟨s2, hs2⟩ : ∃ x, Frm.sum s m b = x := ⟨_, rfl⟩
  rw [hs2] at hsum ⊢
  have HS := Lib.hid hsum.symm
  have hs32 := s2.isLt
  clear h hl hal hrn hs2 hsum
  go_enter Try.func31, Try.ntmps31
  go_wp2_with fail
  refine HP.out.mono ?_
  rintro e w3 ⟨A3, n3, c3, rfl, hn3, ho3, hb3⟩
  have hn3' : n3 = 3 := by rw [← hn3, Frm.head_length]
  subst hn3'
  have HO3 := Lib.hid ho3
  have HB3 := Lib.hid (HAL.out.trans (hb3.mono HAL.out.size))
  have HQ := Lib.hid (Go.Proofs.Ytmabmhiombnngaa.refPut A3 c3 (Frm.head m b) 4 s2.toNat w3 w3.heap.size (Rd.of_own ho3) hn3 (Nat.le_refl _) ⟨by decide, by decide⟩ (by omega) (by decide))
  have HM1 := Lib.hid (Go.Proofs.Ytmabmhiombnngaa.refMore s A3 c3 (Frm.head m b) w3 _ (Rd.of_own ho3) (by rw [Frm.head_length]; unfold maxLen; decide) hn3)
  have HM2 := Lib.hid (Go.Proofs.Ytmabmhiombnngaa.refMore (Crc.more s (Frm.head m b)) A c b w3 w.heap.size (HRD.out.below HB3.out) (by rw [HL.out]; unfold maxLen; omega) HL.out)
  rw [HS.out] at HM2
  generalize Crc.more s (Frm.head m b) = s1 at *
  clear hn3 ho3 hb3 HP HAL
  go_wp2_with fail
  refine HM1.out.mono ?_
  rintro e w4 ⟨rfl, rfl⟩
  go_wp2_with fail
  refine HM2.out.mono ?_
  rintro e w4 ⟨rfl, rfl⟩
  clear HM1 HM2 HS
  go_wp2_with fail
  refine HQ.out.mono ?_
  rintro e w5 ⟨A5, n5, c5, rfl, hn5, ho5, hb5⟩
  have he5 : Num.put (Frm.head m b) 4 s2.toNat = Frm.head m b ++ Num.leB s2.toNat 4 := rfl
  rw [he5] at hn5 ho5
  have hn5' : n5 = 7 := by rw [← hn5, List.length_append, Frm.head_length, Num.leB_length]
  subst hn5'
  have HO5 := Lib.hid ho5
  have HB5 := Lib.hid (HB3.out.via hb5)
  have hz5 := hb5.size
  have hz3 := HB3.out.size
  clear hn5 ho5 hb5 HQ HB3
  go_wp2_with (at_builtin; go_loud (refine appB _ rfl (.tmp 24) (.tmp 25) rfl _ A5 7 c5 _ rfl HO5.out _ A n c (b.map bv) rfl (by rw [List.length_map]; exact HL.out) (HRD.out.below HB5.out) one_bytes (by omega) hz5 ?_; intro A4 c4 w4 ho4 hg4 hb4; have HO4 := Lib.hid ho4; have HB4 := Lib.hid (HB5.out.trans (hb4.mono hz3)); clear ho4 hg4 hb4))
  rw [← List.map_append] at HO4
  first | go_ret2 | go_ret
  refine ⟨A4, 7 + n, c4, rfl, by rw [Frm.pc_length, HL.out], ?_, HB4.out⟩
  have := own_lower1 HO4.out hz3
  unfold Frm.pc
  rw [← List.append_assoc]
  exact this
theorem refCutNo (A : Option Addr) (n c : Nat) (room : Int) (w : World) (hno : room < 8 ∨ 65535 < room) :
    Calls Try.prog 15 #[.slice A n c, .int .i64 room] w fun e w' => e = .returned (.tuple #[.slice none 0 0, .int .i64 2]) ∧ w' = w := by
  by_cases h1 : room < 8
  · go_enter Try.func15, Try.ntmps15
    go_wp2
    first | go_ret2 | go_ret
    exact ⟨rfl, rfl⟩
  · have h2 : 65535 < room := by omega
    go_enter Try.func15, Try.ntmps15
    go_wp2
    first | go_ret2 | go_ret
    exact ⟨rfl, rfl⟩
set_option maxHeartbeats 4000000 in
theorem refCutP (A : Option Addr) (n c : Nat) (b : List UInt8) (R : Nat) (w : World) (hn1 : 0 < n) (h : Rd w w.heap.size A (b.map bv)) (hl : b.length = n) (hc : n ≤ c) (hcm : c ≤ maxLen) (hn : n ≤ 1000000) (hR : 8 ≤ R ∧ R ≤ 65535) :
    Calls Try.prog 15 #[.slice A n c, .int .i64 (R : Int)] w (NewR (Frm.cutF R 1 0#32 b) 0 w) := by
  have HRD := Lib.hid h
  have HL := Lib.hid hl
  unfold maxLen at hcm
  obtain ⟨hR1, hR2⟩ := hR
  clear h hl
  unfold NewR
  obtain ⟨D, hD⟩ : ∃ D, Frm.cutF R 1 0#32 b = D := ⟨_, rfl⟩
  have HD0 := Lib.hid hD
  rw [hD]
  clear hD
  go_enter Try.func15, Try.ntmps15
  go_wp2
  go_loopw [6, 7, 8, 9, 10, 11, 12] (fun o s i _ _ _ _ wr => ∃ (p : Nat) (t : BitVec 32) (L : List RowB) (Ao : Option Addr) (no co : Nat), i = .int .i64 p ∧ o = .slice Ao no co ∧ s = .int .u32 (t.toNat : Int) ∧ no ≤ p ∧ p ≤ n + 65535 ∧ Hid (no = L.length) ∧ Hid (CutI w L Ao co wr) ∧
    ((p = 0 ∨ p < n) ∧ Hid (L.map (·.bs) ++ Frm.cutF R (if p = 0 then 1 else 0) t (b.drop p) = D) ∨ (n ≤ p ∧ p ≠ 0) ∧ Hid (L.map (·.bs) = D))) (fun _ _ i _ _ _ _ _ => n + 1 - (intOf i).toNat)
  case atStart => exact ⟨0, 0#32, [], none, 0, 0, rfl, rfl, rfl, Nat.le_refl _, by omega, Lib.hid rfl, Lib.hid (CutI.nil w), .inl ⟨.inl rfl, Lib.hid (by rw [if_pos rfl, List.drop_zero]; exact HD0.out)⟩⟩
  case round =>
    obtain ⟨p, t, L, Ao, no, co, rfl, rfl, rfl, hno, hpn, HNO, HI, hcase⟩ := hrel
    rcases hcase with ⟨hpc, HD⟩ | ⟨⟨hpn2, hp0⟩, HD⟩
    · by_cases hp0 : p = 0
      · rw [if_pos hp0] at HD
        have hpe : ((p : Int) == 0) = true := by subst hp0; rfl
        have hp00 : p < n ∨ n ≤ p := by omega
        have hn0 : p < n := by omega
        · have hm0 : p + R - 7 ≠ 0 := by omega
          clear hp0 hpc hp00
          by_cases hm : p + R - 7 < n
          · have hmm := hm
            have hsl := fun V : World => run_cut_both (P := Try.prog) 26 5 Try.underlying26 sizeByte A n c p (p + R - 7) .i64 .i64 (by omega) (by omega) V
            rw [show ((((p + R - 7) : Nat)) : Int) = ((p : Int) + (R : Int) - 7) by omega] at hsl
            have HBL : Hid (((b.drop p).take (R - 7)).length = p + R - 7 - p) := Lib.hid (by rw [List.length_take, List.length_drop, HL.out]; omega)
            have HRB : Hid (Rd w w.heap.size (cut A c p) (((b.drop p).take (R - 7)).map bv)) := Lib.hid (by
              have := HRD.out.cut (c := c) (k := p) (by rw [List.length_map, HL.out]; omega) (by rw [List.length_map, HL.out]; exact hc)
              rw [← List.map_drop] at this
              rw [List.map_take]; exact this.take _)
            have HST := Lib.hid (Frm.cutF_more (room := R) (mark := 1) (s := t) (b := b.drop p) (by rw [List.length_drop, HL.out]; omega))
            have HPC := Lib.hid (refPiece t 1 (cut A c p) (p + R - 7 - p) (c - p) ((b.drop p).take (R - 7)) wr (by omega) ((HRB.out.below HI.out.below).more HI.out.below.size) HBL.out (by omega))
            have hsz := HI.out.below.size
            generalize cut A c p = Ap at *
            go_wp2_with fail
            refine HPC.out.mono ?_
            rintro e w3 ⟨A3, n3, c3, rfl, hl3, ho3, hb3⟩
            have HPU := Lib.hid fun A4 c4 w4 ho4 hg4 hb4 => HI.out.push (r := ⟨A3, n3, c3, Frm.pc 1 ((b.drop p).take (R - 7)) (Frm.sum t 1 ((b.drop p).take (R - 7)))⟩) (w2 := w3) (w3 := w4) (A3 := A4) (c3 := c4) hb3 ho3 ho4 hg4 hb4
            have HOW2 : Hid (w3.ownsRow w.heap.size 26 1 (.slice Ao no co) no (L.map RowB.v)) := Lib.hid (by rw [HNO.out]; exact own_via HI.out.own hb3)
            have hsz3 : w.heap.size ≤ w3.heap.size := Nat.le_trans hsz hb3.size
            have HNO2 : Hid (no + 1 = (L ++ [(⟨A3, n3, c3, Frm.pc 1 ((b.drop p).take (R - 7)) (Frm.sum t 1 ((b.drop p).take (R - 7)))⟩ : RowB)]).length) := Lib.hid (by rw [List.length_append, ← HNO.out]; rfl)
            have HD2 : Hid ((L ++ [(⟨A3, n3, c3, Frm.pc 1 ((b.drop p).take (R - 7)) (Frm.sum t 1 ((b.drop p).take (R - 7)))⟩ : RowB)]).map (·.bs) ++ Frm.cutF R (if p + R - 7 = 0 then 1 else 0) (Frm.sum t 1 ((b.drop p).take (R - 7))) (b.drop (p + R - 7)) = D) := Lib.hid (by rw [← HD.out, HST.out, if_neg (by omega), List.drop_drop, show p + (R - 7) = p + R - 7 from by omega]; simp)
            clear hl3 ho3 hb3 HPC HST
            rw [← HNO.out] at HPU
            go_wp2_with (at_builtin; go_loud (refine appR _ rfl (.tmp 56) (.tmp 58) rfl w.heap.size Ao no co (L.map RowB.v) rfl (HOW2.out.alloc _) _ (some ⟨w3.heap.size, 0, none⟩) 1 1 [.slice A3 n3 c3] rfl rfl (Rd.new w3 _ _ _ rfl) (one_rows (L := [⟨A3, n3, c3, []⟩])) (by omega) (by simp; omega) ?_; intro A4 c4 w4 ho4 hg4 hb4; have HI4 := Lib.hid (HPU.out A4 c4 w4 ho4 hg4 hb4); clear ho4 hg4 hb4))
            go_roundw
            case rel => exact ⟨p + R - 7, Frm.sum t 1 ((b.drop p).take (R - 7)), L ++ [⟨A3, n3, c3, Frm.pc 1 ((b.drop p).take (R - 7)) (Frm.sum t 1 ((b.drop p).take (R - 7)))⟩], A4, no + 1, c4, by go_num, rfl, rfl, by omega, by omega, HNO2, HI4, .inl ⟨.inr (by omega), HD2⟩⟩
            case measure => simp [intOf]; omega
          · have hmm := hm
            have hsl := fun V : World => run_cut_both (P := Try.prog) 26 5 Try.underlying26 sizeByte A n c p n .i64 .i64 (by omega) (by omega) V
            rw [show (((n : Nat)) : Int) = (n : Int) by omega] at hsl
            have HBL : Hid ((b.drop p).length = n - p) := Lib.hid (by rw [List.length_drop, HL.out])
            have HRB : Hid (Rd w w.heap.size (cut A c p) ((b.drop p).map bv)) := Lib.hid (by
              have := HRD.out.cut (c := c) (k := p) (by rw [List.length_map, HL.out]; omega) (by rw [List.length_map, HL.out]; exact hc)
              rw [← List.map_drop] at this
              exact this)
            have HST := Lib.hid (Frm.cutF_last (room := R) (mark := 1) (s := t) (b := b.drop p) (by rw [List.length_drop, HL.out]; omega))
            have HPC := Lib.hid (refPiece t 3 (cut A c p) (n - p) (c - p) (b.drop p) wr (by omega) ((HRB.out.below HI.out.below).more HI.out.below.size) HBL.out (by omega))
            have hsz := HI.out.below.size
            generalize cut A c p = Ap at *
            go_wp2_with fail
            refine HPC.out.mono ?_
            rintro e w3 ⟨A3, n3, c3, rfl, hl3, ho3, hb3⟩
            have HPU := Lib.hid fun A4 c4 w4 ho4 hg4 hb4 => HI.out.push (r := ⟨A3, n3, c3, Frm.pc 3 (b.drop p) (Frm.sum t 3 (b.drop p))⟩) (w2 := w3) (w3 := w4) (A3 := A4) (c3 := c4) hb3 ho3 ho4 hg4 hb4
            have HOW2 : Hid (w3.ownsRow w.heap.size 26 1 (.slice Ao no co) no (L.map RowB.v)) := Lib.hid (by rw [HNO.out]; exact own_via HI.out.own hb3)
            have hsz3 : w.heap.size ≤ w3.heap.size := Nat.le_trans hsz hb3.size
            have HNO2 : Hid (no + 1 = (L ++ [(⟨A3, n3, c3, Frm.pc 3 (b.drop p) (Frm.sum t 3 (b.drop p))⟩ : RowB)]).length) := Lib.hid (by rw [List.length_append, ← HNO.out]; rfl)
            have HD2 : Hid ((L ++ [(⟨A3, n3, c3, Frm.pc 3 (b.drop p) (Frm.sum t 3 (b.drop p))⟩ : RowB)]).map (·.bs) = D) := Lib.hid (by rw [← HD.out, HST.out]; simp)
            clear hl3 ho3 hb3 HPC HST
            rw [← HNO.out] at HPU
            go_wp2_with (at_builtin; go_loud (refine appR _ rfl (.tmp 56) (.tmp 58) rfl w.heap.size Ao no co (L.map RowB.v) rfl (HOW2.out.alloc _) _ (some ⟨w3.heap.size, 0, none⟩) 1 1 [.slice A3 n3 c3] rfl rfl (Rd.new w3 _ _ _ rfl) (one_rows (L := [⟨A3, n3, c3, []⟩])) (by omega) (by simp; omega) ?_; intro A4 c4 w4 ho4 hg4 hb4; have HI4 := Lib.hid (HPU.out A4 c4 w4 ho4 hg4 hb4); clear ho4 hg4 hb4))
            go_roundw
            case rel => exact ⟨p + R - 7, Frm.sum t 3 (b.drop p), L ++ [⟨A3, n3, c3, Frm.pc 3 (b.drop p) (Frm.sum t 3 (b.drop p))⟩], A4, no + 1, c4, by go_num, rfl, rfl, by omega, by omega, HNO2, HI4, .inr ⟨⟨by omega, by omega⟩, HD2⟩⟩
            case measure => simp [intOf]; omega
      · rw [if_neg hp0] at HD
        have hpe : ((p : Int) == 0) = false := by simpa using hp0
        have hn0 : p < n := by omega
        clear hpc
        by_cases hm : p + R - 7 < n
        · have hmm := hm
          have hsl := fun V : World => run_cut_both (P := Try.prog) 26 5 Try.underlying26 sizeByte A n c p (p + R - 7) .i64 .i64 (by omega) (by omega) V
          rw [show ((((p + R - 7) : Nat)) : Int) = ((p : Int) + (R : Int) - 7) by omega] at hsl
          have HBL : Hid (((b.drop p).take (R - 7)).length = p + R - 7 - p) := Lib.hid (by rw [List.length_take, List.length_drop, HL.out]; omega)
          have HRB : Hid (Rd w w.heap.size (cut A c p) (((b.drop p).take (R - 7)).map bv)) := Lib.hid (by
            have := HRD.out.cut (c := c) (k := p) (by rw [List.length_map, HL.out]; omega) (by rw [List.length_map, HL.out]; exact hc)
            rw [← List.map_drop] at this
            rw [List.map_take]; exact this.take _)
          have HST := Lib.hid (Frm.cutF_more (room := R) (mark := 0) (s := t) (b := b.drop p) (by rw [List.length_drop, HL.out]; omega))
          have HPC := Lib.hid (refPiece t 0 (cut A c p) (p + R - 7 - p) (c - p) ((b.drop p).take (R - 7)) wr (by omega) ((HRB.out.below HI.out.below).more HI.out.below.size) HBL.out (by omega))
          have hsz := HI.out.below.size
          generalize cut A c p = Ap at *
          go_wp2_with fail
          refine HPC.out.mono ?_
          rintro e w3 ⟨A3, n3, c3, rfl, hl3, ho3, hb3⟩
          have HPU := Lib.hid fun A4 c4 w4 ho4 hg4 hb4 => HI.out.push (r := ⟨A3, n3, c3, Frm.pc 0 ((b.drop p).take (R - 7)) (Frm.sum t 0 ((b.drop p).take (R - 7)))⟩) (w2 := w3) (w3 := w4) (A3 := A4) (c3 := c4) hb3 ho3 ho4 hg4 hb4
          have HOW2 : Hid (w3.ownsRow w.heap.size 26 1 (.slice Ao no co) no (L.map RowB.v)) := Lib.hid (by rw [HNO.out]; exact own_via HI.out.own hb3)
          have hsz3 : w.heap.size ≤ w3.heap.size := Nat.le_trans hsz hb3.size
          have HNO2 : Hid (no + 1 = (L ++ [(⟨A3, n3, c3, Frm.pc 0 ((b.drop p).take (R - 7)) (Frm.sum t 0 ((b.drop p).take (R - 7)))⟩ : RowB)]).length) := Lib.hid (by rw [List.length_append, ← HNO.out]; rfl)
          have HD2 : Hid ((L ++ [(⟨A3, n3, c3, Frm.pc 0 ((b.drop p).take (R - 7)) (Frm.sum t 0 ((b.drop p).take (R - 7)))⟩ : RowB)]).map (·.bs) ++ Frm.cutF R (if p + R - 7 = 0 then 1 else 0) (Frm.sum t 0 ((b.drop p).take (R - 7))) (b.drop (p + R - 7)) = D) := Lib.hid (by rw [← HD.out, HST.out, if_neg (by omega), List.drop_drop, show p + (R - 7) = p + R - 7 from by omega]; simp)
          clear hl3 ho3 hb3 HPC HST
          rw [← HNO.out] at HPU
          go_wp2_with (at_builtin; go_loud (refine appR _ rfl (.tmp 56) (.tmp 58) rfl w.heap.size Ao no co (L.map RowB.v) rfl (HOW2.out.alloc _) _ (some ⟨w3.heap.size, 0, none⟩) 1 1 [.slice A3 n3 c3] rfl rfl (Rd.new w3 _ _ _ rfl) (one_rows (L := [⟨A3, n3, c3, []⟩])) (by omega) (by simp; omega) ?_; intro A4 c4 w4 ho4 hg4 hb4; have HI4 := Lib.hid (HPU.out A4 c4 w4 ho4 hg4 hb4); clear ho4 hg4 hb4))
          go_roundw
          case rel => exact ⟨p + R - 7, Frm.sum t 0 ((b.drop p).take (R - 7)), L ++ [⟨A3, n3, c3, Frm.pc 0 ((b.drop p).take (R - 7)) (Frm.sum t 0 ((b.drop p).take (R - 7)))⟩], A4, no + 1, c4, by go_num, rfl, rfl, by omega, by omega, HNO2, HI4, .inl ⟨.inr (by omega), HD2⟩⟩
          case measure => simp [intOf]; omega
        · have hmm := hm
          have hsl := fun V : World => run_cut_both (P := Try.prog) 26 5 Try.underlying26 sizeByte A n c p n .i64 .i64 (by omega) (by omega) V
          rw [show (((n : Nat)) : Int) = (n : Int) by omega] at hsl
          have HBL : Hid ((b.drop p).length = n - p) := Lib.hid (by rw [List.length_drop, HL.out])
          have HRB : Hid (Rd w w.heap.size (cut A c p) ((b.drop p).map bv)) := Lib.hid (by
            have := HRD.out.cut (c := c) (k := p) (by rw [List.length_map, HL.out]; omega) (by rw [List.length_map, HL.out]; exact hc)
            rw [← List.map_drop] at this
            exact this)
          have HST := Lib.hid (Frm.cutF_last (room := R) (mark := 0) (s := t) (b := b.drop p) (by rw [List.length_drop, HL.out]; omega))
          have HPC := Lib.hid (refPiece t 2 (cut A c p) (n - p) (c - p) (b.drop p) wr (by omega) ((HRB.out.below HI.out.below).more HI.out.below.size) HBL.out (by omega))
          have hsz := HI.out.below.size
          generalize cut A c p = Ap at *
          go_wp2_with fail
          refine HPC.out.mono ?_
          rintro e w3 ⟨A3, n3, c3, rfl, hl3, ho3, hb3⟩
          have HPU := Lib.hid fun A4 c4 w4 ho4 hg4 hb4 => HI.out.push (r := ⟨A3, n3, c3, Frm.pc 2 (b.drop p) (Frm.sum t 2 (b.drop p))⟩) (w2 := w3) (w3 := w4) (A3 := A4) (c3 := c4) hb3 ho3 ho4 hg4 hb4
          have HOW2 : Hid (w3.ownsRow w.heap.size 26 1 (.slice Ao no co) no (L.map RowB.v)) := Lib.hid (by rw [HNO.out]; exact own_via HI.out.own hb3)
          have hsz3 : w.heap.size ≤ w3.heap.size := Nat.le_trans hsz hb3.size
          have HNO2 : Hid (no + 1 = (L ++ [(⟨A3, n3, c3, Frm.pc 2 (b.drop p) (Frm.sum t 2 (b.drop p))⟩ : RowB)]).length) := Lib.hid (by rw [List.length_append, ← HNO.out]; rfl)
          have HD2 : Hid ((L ++ [(⟨A3, n3, c3, Frm.pc 2 (b.drop p) (Frm.sum t 2 (b.drop p))⟩ : RowB)]).map (·.bs) = D) := Lib.hid (by rw [← HD.out, HST.out]; simp)
          clear hl3 ho3 hb3 HPC HST
          rw [← HNO.out] at HPU
          go_wp2_with (at_builtin; go_loud (refine appR _ rfl (.tmp 56) (.tmp 58) rfl w.heap.size Ao no co (L.map RowB.v) rfl (HOW2.out.alloc _) _ (some ⟨w3.heap.size, 0, none⟩) 1 1 [.slice A3 n3 c3] rfl rfl (Rd.new w3 _ _ _ rfl) (one_rows (L := [⟨A3, n3, c3, []⟩])) (by omega) (by simp; omega) ?_; intro A4 c4 w4 ho4 hg4 hb4; have HI4 := Lib.hid (HPU.out A4 c4 w4 ho4 hg4 hb4); clear ho4 hg4 hb4))
          go_roundw
          case rel => exact ⟨p + R - 7, Frm.sum t 2 (b.drop p), L ++ [⟨A3, n3, c3, Frm.pc 2 (b.drop p) (Frm.sum t 2 (b.drop p))⟩], A4, no + 1, c4, by go_num, rfl, rfl, by omega, by omega, HNO2, HI4, .inr ⟨⟨by omega, by omega⟩, HD2⟩⟩
          case measure => simp [intOf]; omega
    · have hpe : ((p : Int) == 0) = false := by simpa using hp0
      go_wp2
      first | go_ret2 | go_ret
      refine ⟨Ao, no, co, L, rfl, HD.out, HNO.out.symm, ?_, HI.out.rows, HI.out.below⟩
      rw [HNO.out]
      exact HI.out.own
set_option maxHeartbeats 1000000 in
theorem refCut0 (A : Option Addr) (c : Nat) (R : Nat) (w : World) (hR : 8 ≤ R ∧ R ≤ 65535) :
    Calls Try.prog 15 #[.slice A 0 c, .int .i64 (R : Int)] w (NewR (Frm.cutF R 1 0#32 []) 0 w) := by
  obtain ⟨hR1, hR2⟩ := hR
  rw [Frm.cutF_last (by rintro ⟨h1, h2⟩; simp at h2)]
  unfold NewR
  obtain ⟨x, hx⟩ : ∃ x, Frm.pc (1 + 2) [] (Frm.sum 0#32 (1 + 2) []) = x := ⟨_, rfl⟩
  have HPC := Lib.hid fun (A' : Option Addr) (c' : Nat) (W : World) => refPiece 0#32 3 A' 0 c' [] W (by decide) (Rd.nil _ _ _) rfl (by decide)
  rw [show Frm.pc 3 [] (Frm.sum 0#32 3 []) = x from hx] at HPC
  rw [hx]
  clear hx
  have hwr : IntKind.i64.wrap ((R : Int) - 7) = (R : Int) - 7 := by rw [IntKind.wrap_i64]; omega
  have hR7 : ((R : Int) - 7 == 0) = false := by simp; omega
  have hR8 : decide ((R : Int) - 7 < 0) = false := decide_eq_false (by omega)
  go_enter Try.func15, Try.ntmps15
  go_wp2
  go_loopw [6, 7, 8, 9, 10, 11, 12] (fun o s i _ _ _ _ wr => (i = .int .i64 0 ∧ o = .slice none 0 0 ∧ s = .int .u32 0 ∧ Hid (CutI w [] none 0 wr)) ∨ ∃ (r : RowB) (Ao : Option Addr) (co : Nat), i = .int .i64 ((R : Int) - 7) ∧ o = .slice Ao 1 co ∧ Hid (r.bs = x) ∧ Hid (CutI w [r] Ao co wr)) (fun _ _ i _ _ _ _ _ => R - (intOf i).toNat)
  case atStart => exact .inl ⟨rfl, rfl, rfl, Lib.hid (CutI.nil w)⟩
  case round =>
    rcases hrel with ⟨rfl, rfl, rfl, HI⟩ | ⟨r, Ao, co, rfl, rfl, HX, HI⟩
    · have hsz := HI.out.below.size
      go_wp2_with fail
      refine (HPC.out _ _ _).mono ?_
      rintro e w3 ⟨A3, n3, c3, rfl, hl3, ho3, hb3⟩
      have HPU := Lib.hid fun A4 c4 w4 ho4 hg4 hb4 => HI.out.push (r := ⟨A3, n3, c3, x⟩) (w2 := w3) (w3 := w4) (A3 := A4) (c3 := c4) hb3 ho3 ho4 hg4 hb4
      have hsz3 : w.heap.size ≤ w3.heap.size := Nat.le_trans hsz hb3.size
      clear hl3 ho3 hb3 HPC
      go_wp2_with (at_builtin; go_loud (refine appR _ rfl (.tmp 56) (.tmp 58) rfl w.heap.size none 0 0 [] rfl (World.ownsRow_nil _ _ _ _) _ (some ⟨w3.heap.size, 0, none⟩) 1 1 [.slice A3 n3 c3] rfl rfl (Rd.new w3 _ _ _ rfl) (one_rows (L := [⟨A3, n3, c3, []⟩])) (by omega) (by simp; omega) ?_; intro A4 c4 w4 ho4 hg4 hb4; have HI4 := Lib.hid (HPU.out A4 c4 w4 ho4 hg4 hb4); clear ho4 hg4 hb4))
      go_roundw
      case rel => exact .inr ⟨⟨A3, n3, c3, x⟩, A4, c4, by go_num, rfl, Lib.hid rfl, HI4⟩
      case measure => simp [intOf]; omega
    · go_wp2
      first | go_ret2 | go_ret
      refine ⟨Ao, 1, co, [r], rfl, by rw [← HX.out]; rfl, rfl, HI.out.own, HI.out.rows, HI.out.below⟩
theorem refCut (A : Option Addr) (n c : Nat) (b : List UInt8) (R : Nat) (w : World) (h : Rd w w.heap.size A (b.map bv)) (hl : b.length = n) (hc : n ≤ c) (hcm : c ≤ maxLen) (hn : n ≤ 1000000) (hR : 8 ≤ R ∧ R ≤ 65535) :
    Calls Try.prog 15 #[.slice A n c, .int .i64 (R : Int)] w (NewR (Frm.cutF R 1 0#32 b) 0 w) := by
  by_cases h0 : n = 0
  · subst h0
    obtain rfl : b = [] := List.length_eq_zero_iff.1 hl
    exact refCut0 A c R w hR
  · exact refCutP A n c b R w (by omega) h hl hc hcm hn hR
end Cib
