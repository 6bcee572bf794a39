/- The law CodeBack. -/
import Derived.Test.YtoahkanaoapgpaaCodL
import Derived.Test.YtoahkanaoapgpaaCodK
set_option linter.unusedVariables false
set_option linter.unusedSimpArgs false
set_option maxRecDepth 40000
namespace Cib
open Go Go.RowKit Go.Proofs
/-- What is split, put together: the text, and noughts behind it. -/
theorem split_flat (bs : List UInt8) (W : Nat) : ∀ p, (Cod.splitD bs W p).flatten = bs.take (p * W) ++ List.replicate (p * W - bs.length) 0
  | 0 => by simp [Cod.splitD]
  | p + 1 => by
    rw [Cod.splitD_next, List.flatten_append, split_flat bs W p]
    simp only [List.flatten_cons, List.flatten_nil, List.append_nil, Cod.cutRow, Cod.pad]
    have e : (p + 1) * W = p * W + W := Nat.succ_mul p W
    rw [e]
    by_cases h : bs.length ≤ p * W
    · have e1 : bs.take (p * W) = bs := List.take_of_length_le h
      have e2 : bs.take (p * W + W) = bs := List.take_of_length_le (by omega)
      have e3 : bs.drop (p * W) = [] := List.drop_eq_nil_of_le h
      rw [e1, e2, e3]
      simp only [List.take_nil, List.nil_append, List.length_nil, Nat.sub_zero]
      rw [List.append_assoc, List.replicate_append_replicate, show p * W - bs.length + W = p * W + W - bs.length from by omega]
    · rw [show p * W - bs.length = 0 from by omega, List.replicate_zero, List.append_nil, ← List.append_assoc, ← List.take_add, List.length_take, List.length_drop, show W - min W (bs.length - p * W) = p * W + W - bs.length from by omega]
theorem split_len (bs : List UInt8) (W p : Nat) : (Cod.splitD bs W p).flatten.length = p * W := by
  rw [split_flat, List.length_append, List.length_take, List.length_replicate]
  omega
theorem split_back (bs : List UInt8) (W p : Nat) (h : bs.length ≤ p * W) : (Cod.splitD bs W p).flatten.take bs.length = bs := by
  rw [split_flat, List.take_of_length_le h, List.take_left]
theorem split_evn (bs : List UInt8) (W p : Nat) : Cod.evn (Cod.splitD bs W p) = true ∧ (1 ≤ p → Cod.len0 (Cod.splitD bs W p) = W) := by
  have h : ∀ r ∈ Cod.splitD bs W p, r.length = W := by
    intro r hr
    simp only [Cod.splitD, List.mem_map] at hr
    obtain ⟨i, _, rfl⟩ := hr
    exact Cod.cutRow_length _ _ _
  cases hs : Cod.splitD bs W p with
  | nil =>
    refine ⟨rfl, fun hp => ?_⟩
    have := congrArg List.length hs
    rw [Cod.splitD_length] at this
    simp at this
    omega
  | cons a l =>
    rw [hs] at h
    have h0 : Cod.len0 (a :: l) = W := h a (by simp)
    refine ⟨?_, fun _ => h0⟩
    rw [Cod.evn_true]
    intro r hr
    rw [h0]
    exact h r hr
theorem flat_flatten (L : List RowB) : flat L = (bss L).flatten := by
  unfold flat bss
  rw [List.flatMap_def]
set_option maxHeartbeats 3200000 in
theorem lawBack (k : Int) (Ab : Option Addr) (nb cb : Nat) (bs : List UInt8) (W : Int) (w : World) (hk : -9223372036854775808 ≤ k ∧ k ≤ 9223372036854775807) (hW : -9223372036854775808 ≤ W ∧ W ≤ 9223372036854775807)
    (hrb : Rd w w.heap.size Ab (bs.map bv)) (hnb : bs.length = nb) (hcb : nb ≤ cb) (hcbm : cb ≤ maxLen) :
    Calls Try.prog 7 #[.int .i64 k, .slice Ab nb cb, .int .i64 W] w fun e w' => e = .returned (.bool true) ∧ Below w.heap.size w w' := by
  have hnbm : nb ≤ 9223372036854775807 := Nat.le_trans hcb hcbm
  by_cases hmay : mayC k 1
  · obtain ⟨hm1, hm2, hm3, hm4⟩ := hmay
    obtain ⟨k, rfl⟩ : ∃ n : Nat, k = (n : Int) := ⟨k.toNat, by omega⟩
    have HN := Lib.hid (fun V h => cdNew w.heap.size k 1 (by omega) (by omega) (by omega) V h)
    by_cases hb3 : 3000 < nb
    · clear hnb hrb hcbm hk
      go_enter Try.func7, Try.ntmps7
      go_wp2_with fail
      refine (fldNewA _).mono ?_
      rintro e w1 ⟨rfl, hf, hz, hb0⟩
      have hb1 := hb0 w.heap.size w (Nat.le_refl _) (Below.refl _ _)
      clear hb0 hz
      go_wp2_with fail
      refine (HN.out w1 hf).mono ?_
      rintro e w2 ⟨g, A1, c1, rfl, hg, hC, hs2⟩
      have HB3 := Lib.hid (hs2.below hb1 (Nat.le_refl _) hb1.size)
      have HC2 := Lib.hid hC
      clear hs2 hb1 hg hC hf
      go_wp2_with fail
      refine (codes _).mono ?_
      rintro e w5 ⟨rfl, hb5⟩
      have HB5 := Lib.hid (HB3.out.via hb5)
      clear hb5
      go_wp2
      go_ret
      exact ⟨rfl, HB5.out⟩
    · by_cases hw1 : W < 1
      · clear hnb hrb hcbm hk
        go_enter Try.func7, Try.ntmps7
        go_wp2_with fail
        refine (fldNewA _).mono ?_
        rintro e w1 ⟨rfl, hf, hz, hb0⟩
        have hb1 := hb0 w.heap.size w (Nat.le_refl _) (Below.refl _ _)
        clear hb0 hz
        go_wp2_with fail
        refine (HN.out w1 hf).mono ?_
        rintro e w2 ⟨g, A1, c1, rfl, hg, hC, hs2⟩
        have HB3 := Lib.hid (hs2.below hb1 (Nat.le_refl _) hb1.size)
        have HC2 := Lib.hid hC
        clear hs2 hb1 hg hC hf
        go_wp2_with fail
        refine (codes _).mono ?_
        rintro e w5 ⟨rfl, hb5⟩
        have HB5 := Lib.hid (HB3.out.via hb5)
        clear hb5
        go_wp2
        go_ret
        exact ⟨rfl, HB5.out⟩
      · by_cases hw2 : 300 < W
        · clear hnb hrb hcbm hk
          go_enter Try.func7, Try.ntmps7
          go_wp2_with fail
          refine (fldNewA _).mono ?_
          rintro e w1 ⟨rfl, hf, hz, hb0⟩
          have hb1 := hb0 w.heap.size w (Nat.le_refl _) (Below.refl _ _)
          clear hb0 hz
          go_wp2_with fail
          refine (HN.out w1 hf).mono ?_
          rintro e w2 ⟨g, A1, c1, rfl, hg, hC, hs2⟩
          have HB3 := Lib.hid (hs2.below hb1 (Nat.le_refl _) hb1.size)
          have HC2 := Lib.hid hC
          clear hs2 hb1 hg hC hf
          go_wp2_with fail
          refine (codes _).mono ?_
          rintro e w5 ⟨rfl, hb5⟩
          have HB5 := Lib.hid (HB3.out.via hb5)
          clear hb5
          go_wp2
          go_ret
          exact ⟨rfl, HB5.out⟩
        · obtain ⟨V, rfl⟩ : ∃ V : Nat, W = (V : Int) := ⟨W.toNat, by omega⟩
          obtain ⟨T, hT⟩ : ∃ T, k * V = T := ⟨_, rfl⟩
          have hTb : T ≤ 255 * 300 := by
            rw [← hT]
            exact Nat.mul_le_mul (by omega) (by omega)
          have hmul : (k : Int) * (V : Int) = (T : Int) := by rw [← hT]; simp
          have hwT : IntKind.i64.wrap (T : Int) = (T : Int) := by rw [IntKind.wrap_i64]; omega
          have HRB := Lib.hid hrb
          have HNB := Lib.hid hnb
          have HCM := Lib.hid hcbm
          have HT := Lib.hid hT
          by_cases hbig : T < nb
          · have HNO := Lib.hid (fun V2 g gf m c A (hC : Cdr V2 g gf k m A c) => cdSplitNo hC Ab nb cb (V : Int) (Nat.le_trans hcb HCM.out) (.inr (.inr ⟨by omega, by omega, by omega⟩)))
            rw [if_neg (by omega)] at HNO
            clear hT
            clear hnb hrb hcbm hk
            go_enter Try.func7, Try.ntmps7
            go_wp2_with fail
            refine (fldNewA _).mono ?_
            rintro e w1 ⟨rfl, hf, hz, hb0⟩
            have hb1 := hb0 w.heap.size w (Nat.le_refl _) (Below.refl _ _)
            clear hb0 hz
            go_wp2_with fail
            refine (HN.out w1 hf).mono ?_
            rintro e w2 ⟨g, A1, c1, rfl, hg, hC, hs2⟩
            have HB3 := Lib.hid (hs2.below hb1 (Nat.le_refl _) hb1.size)
            have HC2 := Lib.hid hC
            clear hs2 hb1 hg hC hf
            go_wp2_with fail
            refine (HNO.out _ g w.heap.size 1 c1 A1 HC2.out).mono ?_
            rintro e w3 ⟨rfl, rfl⟩
            have HB3 := Lib.hid HB3.out
            clear HC2 HNO
            go_wp2_with fail
            refine (codes _).mono ?_
            rintro e w5 ⟨rfl, hb5⟩
            have HB5 := Lib.hid (HB3.out.via hb5)
            clear hb5
            go_wp2
            go_ret
            exact ⟨rfl, HB5.out⟩
          · clear hT
            clear hnb hrb hcbm hk
            go_enter Try.func7, Try.ntmps7
            go_wp2_with fail
            refine (fldNewA _).mono ?_
            rintro e w1 ⟨rfl, hf, hz, hb0⟩
            have hb1 := hb0 w.heap.size w (Nat.le_refl _) (Below.refl _ _)
            clear hb0 hz
            go_wp2_with fail
            refine (HN.out w1 hf).mono ?_
            rintro e w2 ⟨g, A1, c1, rfl, hg, hC, hs2⟩
            have HB3 := Lib.hid (hs2.below hb1 (Nat.le_refl _) hb1.size)
            have HC2 := Lib.hid hC
            clear hs2 hb1 hg hC hf
            go_wp2_with fail
            refine (cdSplit HC2.out w.heap.size Ab nb cb V bs (HRB.out.below HB3.out) HB3.out.size HNB.out hcb HCM.out (by omega) (by rw [HT.out]; omega)).mono ?_
            rintro e w3 ⟨A3, n3, c3, L3, rfl, hL3, hn3, ho3, hR3, hb3'⟩
            obtain rfl : n3 = k := by
              have := congrArg List.length hL3
              rw [List.length_map, Cod.splitD_length] at this
              omega
            have HB4 := Lib.hid (HB3.out.via hb3')
            have HC4 := Lib.hid (HC2.out.below hb3')
            have HP := Lib.hid (Rd.of_own ho3)
            have HQ := Lib.hid hR3.at
            have HLN := Lib.hid hn3
            have HL3 : Hid (bss L3 = Cod.splitD bs V n3) := hL3
            have HEV : Hid (Cod.evn (bss L3) = true) := (show _ = _ by rw [HL3.out]; exact (split_evn _ _ _).1)
            have HL0 : Hid (Cod.len0 (bss L3) = V) := (show _ = _ by rw [HL3.out]; exact (split_evn _ _ _).2 (by omega))
            have HMM : Hid (∀ r ∈ L3, r.n ≤ 1000000000) := fun r hr => by
              have h1 := HEV.out
              rw [Cod.evn_true] at h1
              have h2 := h1 r.bs (List.mem_map.2 ⟨r, hr, rfl⟩)
              rw [HL0.out, (HQ.out r hr).len] at h2
              omega
            have HF1 : Hid ((flat L3).take nb = bs) := (show _ = _ by rw [flat_flatten, HL3.out, ← HNB.out]; exact split_back _ _ _ (by rw [HNB.out, HT.out]; omega))
            have HF2 : Hid ((flat L3).length = T) := (show _ = _ by rw [flat_flatten, HL3.out, split_len, HT.out])
            clear hL3 hn3 ho3 hR3 hb3' HC2 HB3 HL3
            go_wp2_with fail
            refine (cdJoin HC4.out L3 w3.heap.size A3 c3 nb HP.out HQ.out (Nat.le_refl _) HLN.out HEV.out HMM.out (by rw [HL0.out, HT.out]; omega)).mono ?_
            rintro e w4 ⟨A4, n4, c4, rfl, hn4, ho4, hb4⟩
            rw [HF1.out] at hn4 ho4
            obtain rfl : n4 = nb := by rw [← hn4]; exact HNB.out
            have HB5 := Lib.hid (HB4.out.via hb4)
            have HZ4 := Lib.hid hb4.size
            have HP4 := Lib.hid (Rd.of_own ho4)
            have HN4 := Lib.hid hn4
            have HJ2 := Lib.hid (cdJoin (HC4.out.below hb4) L3 w3.heap.size A3 c3 T (HP.out.below hb4) (fun r hr => (HQ.out r hr).below hb4) hb4.size HLN.out HEV.out HMM.out (by rw [HL0.out, HT.out]; exact Nat.le_refl _))
            have HRB4 := Lib.hid (HRB.out.below HB5.out)
            clear hn4 ho4 hb4 HB4 HC4 HP HQ
            go_wp2_with fail
            refine HJ2.out.mono ?_
            rintro e w5 ⟨A5, n5, c5, rfl, hn5, ho5, hb5⟩
            obtain rfl : n5 = T := by rw [← hn5, List.length_take, HF2.out, Nat.min_self]
            have HB6 := Lib.hid (HB5.out.via hb5)
            have hcv1 := str_run (w := w5) (wS := w5) (HP4.out.below hb5) (Below.refl _ _) hb5.size HN4.out c4
            have hcv2 := str_run (w := w5) (wS := w5) (HRB4.out.below (hb5.mono HB5.out.size)) (Below.refl _ _) HB6.out.size HNB.out cb
            clear hn5 ho5 hb5 HJ2 HP4 HB5 HZ4
            go_wp2_with fail
            refine (codes _).mono ?_
            rintro e w6 ⟨rfl, hb6⟩
            have HB7 := Lib.hid (HB6.out.via hb6)
            clear hb6
            go_wp2
            go_ret
            exact ⟨rfl, HB7.out⟩
  · have HN0 := Lib.hid (fun p V => cdNew0 p k 1 hmay hk (by omega) V)
    clear hmay hrb hnb
    go_enter Try.func7, Try.ntmps7
    go_wp2_with fail
    refine (fldNewA _).mono ?_
    rintro e w1 ⟨rfl, hf, hz, hb0⟩
    have HB1 := Lib.hid (hb0 w.heap.size w (Nat.le_refl _) (Below.refl _ _))
    clear hb0 hz hf
    go_wp2_with fail
    refine (HN0.out _ _).mono ?_
    rintro e w2 ⟨rfl, rfl⟩
    go_wp2_with fail
    refine (codes _).mono ?_
    rintro e w4 ⟨rfl, hb4⟩
    have HB4 := Lib.hid (HB1.out.via hb4)
    clear hb4
    go_wp2
    go_ret
    exact ⟨rfl, HB4.out⟩
end Cib
