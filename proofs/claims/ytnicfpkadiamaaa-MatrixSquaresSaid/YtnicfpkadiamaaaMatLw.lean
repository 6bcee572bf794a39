/- The page's examples of layer 4 come out right. -/
import Derived.Test.YtnicfpkadiamaaaMatR
set_option linter.unusedVariables false
set_option linter.unusedSimpArgs false
set_option maxRecDepth 40000
namespace Cib
open Go Go.RowKit Go.Proofs
/-- The only inverse of 2. -/
theorem inv_two {X : List UInt8} (hl : X.length = 1 * 1) (h : Lin.Inv 1 (Lin.fl 1 [2]) (Lin.fl 1 X)) : X = [142] := by
  have h0 := h.l 0 0 (by decide) (by decide)
  match X, hl with
  | [x], _ =>
    have h1 : Lin.gm x 2 = 1 := by
      have : Lin.sm 1 (fun j => Lin.gm (Lin.fl 1 [x] 0 j) (Lin.fl 1 [2] j 0)) = 0 ^^^ Lin.gm x 2 := rfl
      rw [this, Lin.z_xor] at h0
      exact h0
    have h2 : Lin.gm 142 2 = 1 := by decide +kernel
    have h3 : Lin.gm (x ^^^ 142) 2 = 0 := by rw [Lin.xor_gm, h1, h2]; rfl
    rw [Lin.gm_comm] at h3
    have := Lin.gm_eq h3 (by decide)
    rw [Lin.x_eq this]
theorem inv_two' : Lin.Inv 1 (Lin.fl 1 [2]) (Lin.fl 1 [142]) := by
  refine ⟨fun i k hi hk => ?_, fun i k hi hk => ?_⟩
  · obtain rfl : i = 0 := by omega
    obtain rfl : k = 0 := by omega
    decide +kernel
  · obtain rfl : i = 0 := by omega
    obtain rfl : k = 0 := by omega
    decide +kernel
/-- Twice the same row. -/
theorem sing_two : Lin.Fac 2 2 (Lin.fl 2 [1, 2, 1, 2]) 1 := by
  refine ⟨Lin.fl 2 [1, 2], fun i hi => ⟨fun _ => 1, fun k hk => ?_⟩⟩
  have hi' : i = 0 ∨ i = 1 := by omega
  have hk' : k = 0 ∨ k = 1 := by omega
  have e : Lin.sm 1 (fun j => Lin.gm 1 (Lin.fl 2 [1, 2] j k)) = Lin.fl 2 [1, 2] 0 k := by
    show 0 ^^^ Lin.gm 1 _ = _
    rw [Lin.z_xor, Lin.one_gm]
  rw [e]
  rcases hi' with rfl | rfl <;> rcases hk' with rfl | rfl <;> rfl
theorem own_stp {w w' : World} {b s : Nat} {v : Value} {n : Nat} {xs : List Value} {g : Nat} (h : w.ownsRow b 5 s v n xs) (hs : Stp g w w') (hf : Ty w g 67) : w'.ownsRow b 5 s v n xs := by
  refine ⟨h.1, ?_⟩
  rcases h.2 with h0 | ⟨k, cap, cur, hv, h1, h2, h3⟩
  · exact .inl h0
  · exact .inr ⟨k, cap, cur, hv, h1, (hs.oth k (Array.getElem?_eq_some_iff.1 h2).1 (fun e => by subst e; exact absurd (Ty.one ⟨_, _, h2⟩ hf) (by decide))).trans h2, h3⟩
theorem cau_two : tabN 2 (cauV [2, 3] [0, 1]) (2 * 2) = [142, 244, 244, 142] := by decide +kernel
set_option maxHeartbeats 1000000 in
theorem lawStands (w : World) : Calls Try.prog 10 #[] w fun e w' => e = .returned (.bool true) ∧ Below w.heap.size w w' := by
  go_enter Try.func10, Try.ntmps10
  go_wp2_with fail
  refine (fldNewA w).mono ?_
  rintro e w1 ⟨rfl, hf1, hs0, hb1⟩
  have hs1 : w.heap.size < w1.heap.size := by omega
  clear hs0
  have hbw := hb1 w.heap.size w (Nat.le_refl _) (Below.refl _ _)
  clear hb1
  have hal1 : Below w1.heap.size w1 (w1.alloc (.cells #[.int .u8 2] 5)) := (Below.refl _ _).alloc (Nat.le_refl _) _
  have HI1 : Hid (Calls Try.prog 12 #[.pointer (some ⟨w.heap.size, 0, none⟩), .agg #[.int .i64 1, .int .i64 1, .slice (some ⟨w1.heap.size, 0, none⟩) 1 1]] (w1.alloc (.cells #[.int .u8 2] 5)) (InvR w.heap.size 1 [2] (w1.alloc (.cells #[.int .u8 2] 5)))) := Lib.hid (matInvert w.heap.size 1 (some ⟨w1.heap.size, 0, none⟩) 1 [2] (w1.alloc (.cells #[.int .u8 2] 5)) (hf1.on hal1) (by have := Rd.new w1 #[.int .u8 2] 5 (0, 0) (vs := [2].map bv) rfl; simpa using this) (fun ad e => by injection e with e; subst e; show w1.heap.size ≠ w.heap.size; omega) rfl (by decide) (by decide) (by decide))
  have HB1 := Lib.hid (hbw.via hal1)
  clear hal1 hbw hf1
  go_wp2_with fail
  refine HI1.out.mono ?_
  intro e w2 hinv
  rcases hinv with ⟨X, hX, A2, k2, rfl, hXl, ho2, hs2⟩ | ⟨r, hr, hrk, _⟩
  · obtain rfl := inv_two hXl hX
    have hb2 := hs2.below HB1.out (Nat.le_refl _) HB1.out.size
    have hgl2 : w.heap.size < w2.heap.size := hs2.full.lt
    have HF2 := Lib.hid hs2.full
    have HB2 := Lib.hid hb2
    have HO2 : Hid (w2.ownsRow w.heap.size 5 1 (.slice A2 1 k2) 1 ([142].map bv)) := Lib.hid (own_lowerS ho2 HB1.out.size)
    clear hX hXl ho2 hs2 hb2 HI1 HB1
    unfold mv
    have hal2 : Below w2.heap.size w2 ((w2.alloc (.cells #[.int .i64 1, .int .i64 1, .slice A2 1 k2] 24)).alloc (.cells #[.int .u8 1, .int .u8 2, .int .u8 1, .int .u8 2] 5)) := ((Below.refl _ _).alloc (Nat.le_refl _) _).alloc (by simp) _
    have HI2 : Hid (Calls Try.prog 12 #[.pointer (some ⟨w.heap.size, 0, none⟩), .agg #[.int .i64 2, .int .i64 2, .slice (some ⟨w2.heap.size + 1, 0, none⟩) 4 4]] ((w2.alloc (.cells #[.int .i64 1, .int .i64 1, .slice A2 1 k2] 24)).alloc (.cells #[.int .u8 1, .int .u8 2, .int .u8 1, .int .u8 2] 5)) (InvR w.heap.size 2 [1, 2, 1, 2] ((w2.alloc (.cells #[.int .i64 1, .int .i64 1, .slice A2 1 k2] 24)).alloc (.cells #[.int .u8 1, .int .u8 2, .int .u8 1, .int .u8 2] 5)))) := Lib.hid (matInvert w.heap.size 2 (some ⟨w2.heap.size + 1, 0, none⟩) 4 [1, 2, 1, 2] _ (HF2.out.on hal2).fld (by have := Rd.new (w2.alloc (.cells #[.int .i64 1, .int .i64 1, .slice A2 1 k2] 24)) #[.int .u8 1, .int .u8 2, .int .u8 1, .int .u8 2] 5 (0, 0) (vs := [1, 2, 1, 2].map bv) rfl; simpa using this) (fun ad e => by injection e with e; subst e; show w2.heap.size + 1 ≠ w.heap.size; omega) rfl (by decide) (by decide) (by decide))
    have HB3 := Lib.hid (HB2.out.via hal2)
    have HK3 := Lib.hid ((Blk.new w2 24 #[.int .i64 1, .int .i64 1, .slice A2 1 k2]).alloc (.cells #[.int .u8 1, .int .u8 2, .int .u8 1, .int .u8 2] 5))
    have HO3 := Lib.hid (own_belowS HO2.out hal2)
    have HT3 := Lib.hid (Blk.ty (t := 67) (cs := fcells 1 0 255) (HF2.out.on hal2))
    clear hal2 HF2 HB2 HO2
    go_wp2_with fail
    refine HI2.out.mono ?_
    intro e w3 hinv
    rcases hinv with ⟨X, hX, _⟩ | ⟨r, hr, hrk, rfl, hs3⟩
    · exact absurd (hX.ind.le sing_two) (by decide)
    · have hgl3 : w.heap.size < w3.heap.size := hs3.full.lt
      have HF3 := Lib.hid hs3.full
      have HB4 := Lib.hid (hs3.below HB3.out (Nat.le_refl _) HB3.out.size)
      have hz3 : w2.heap.size + 1 < w3.heap.size := by have := hs3.size; simp at this; omega
      have HK4 : Hid (Blk w3 w2.heap.size 24 #[.int .i64 1, .int .i64 1, .slice A2 1 k2]) := Lib.hid ((hs3.oth w2.heap.size (by simp; omega) (by omega)).trans HK3.out)
      have HO4 : Hid (w3.ownsRow w.heap.size 5 1 (.slice A2 1 k2) 1 ([142].map bv)) := Lib.hid (own_stp HO3.out hs3 HT3.out)
      clear hr hrk hs3 HI2 HB3 HK3 HO3
      unfold mv
      have hal4 : Below w3.heap.size w3 (((w3.alloc (.cells #[.int .i64 0, .int .i64 0, .slice none 0 0] 24)).alloc (.cells #[.int .u8 2, .int .u8 3] 5)).alloc (.cells #[.int .u8 0, .int .u8 1] 5)) := (((Below.refl _ _).alloc (Nat.le_refl _) _).alloc (by simp) _).alloc (by simp; omega) _
      have hrx : Rd (((w3.alloc (.cells #[.int .i64 0, .int .i64 0, .slice none 0 0] 24)).alloc (.cells #[.int .u8 2, .int .u8 3] 5)).alloc (.cells #[.int .u8 0, .int .u8 1] 5)) (w3.heap.size + 1 + 1) (some ⟨w3.heap.size + 1, 0, none⟩) ([2, 3].map bv) := by
        have := (Rd.new (w3.alloc (.cells #[.int .i64 0, .int .i64 0, .slice none 0 0] 24)) #[.int .u8 2, .int .u8 3] 5 (0, 0) (vs := [2, 3].map bv) rfl).alloc (by simp) (.cells #[.int .u8 0, .int .u8 1] 5)
        simpa using this
      have hry : Rd (((w3.alloc (.cells #[.int .i64 0, .int .i64 0, .slice none 0 0] 24)).alloc (.cells #[.int .u8 2, .int .u8 3] 5)).alloc (.cells #[.int .u8 0, .int .u8 1] 5)) (w3.heap.size + 1 + 1 + 1) (some ⟨w3.heap.size + 1 + 1, 0, none⟩) ([0, 1].map bv) := by
        have := Rd.new ((w3.alloc (.cells #[.int .i64 0, .int .i64 0, .slice none 0 0] 24)).alloc (.cells #[.int .u8 2, .int .u8 3] 5)) #[.int .u8 0, .int .u8 1] 5 (0, 0) (vs := [0, 1].map bv) rfl
        simpa using this
      have HI3 := Lib.hid (matCauchy w.heap.size (some ⟨w3.heap.size + 1, 0, none⟩) (some ⟨w3.heap.size + 1 + 1, 0, none⟩) 2 2 2 2 [2, 3] [0, 1] _ (HF3.out.on hal4).fld (w3.heap.size + 1 + 1 + 1) (by simp) (hrx.more (by omega)) hry (fun ad e => by injection e with e; subst e; show w3.heap.size + 1 ≠ w.heap.size; omega) (fun ad e => by injection e with e; subst e; show w3.heap.size + 1 + 1 ≠ w.heap.size; omega) rfl rfl (by decide) (by decide) (by unfold maxLen; decide) (by unfold maxLen; decide) (by decide) (by decide) (by decide))
      rw [cau_two] at HI3
      have HB5 := Lib.hid (HB4.out.via hal4)
      have HK5 := Lib.hid (HK4.out.below hal4 HK4.out.lt)
      have HO5 := Lib.hid (own_belowS HO4.out hal4)
      have HT5 := Lib.hid (Blk.ty (t := 67) (cs := fcells 1 0 255) (HF3.out.on hal4))
      clear hal4 hrx hry HF3 HB4 HK4 HO4
      go_wp2_with fail
      refine HI3.out.mono ?_
      rintro e w5 ⟨A5, k5, rfl, _, ho5, hs5⟩
      have HB6 := Lib.hid (hs5.below HB5.out (Nat.le_refl _) HB5.out.size)
      have hk6 : Blk w5 w2.heap.size 24 #[.int .i64 1, .int .i64 1, .slice A2 1 k2] := (hs5.oth w2.heap.size (by simp; omega) (by omega)).trans HK5.out
      have ho6 := own_stp HO5.out hs5 HT5.out
      have c2 := hk6.cell 2
      simp only [List.getElem?_toArray, List.getElem?_cons_zero, List.getElem?_cons_succ] at c2
      obtain ⟨ad, rfl, _, hc6⟩ := (Rd.of_own ho6).byte (k := 0) (by decide)
      rw [addr_add_zero, show (([142] : List UInt8)[0]'(by decide)).toNat = 142 from rfl] at hc6
      have hlt2 : w2.heap.size < w5.heap.size := hk6.lt
      have hal6 : Below w5.heap.size w5 (w5.alloc (.cells #[.int .i64 2, .int .i64 2, .slice A5 4 k5] 24)) := (Below.refl _ _).alloc (Nat.le_refl _) _
      have hst := str_run (Rd.of_own ho5) hal6 (Nat.le_refl _) (n := 4) rfl k5
      have hla : ad.block < w5.heap.size := block_lt_of_cell hc6
      have HAL6 := Lib.hid (HB6.out.via hal6)
      clear hs5 ho5 HI3 HB5 HK5 HO5 HT5 hk6 ho6 hal6
      unfold mv
      go_wp2
      go_ret
      exact ⟨by first | rfl | (refine ret_eq (bool_eq ?_); decide +kernel), HAL6.out⟩
  · have := inv_two'.full hrk
    omega
end Cib
