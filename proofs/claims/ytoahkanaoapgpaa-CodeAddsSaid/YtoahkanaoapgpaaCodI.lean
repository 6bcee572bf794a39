/- The document's Split, Join. -/
import Derived.Test.YtoahkanaoapgpaaCodH
set_option linter.unusedVariables false
set_option linter.unusedSimpArgs false
set_option maxRecDepth 40000
namespace Cib
open Go Go.RowKit Go.Proofs
set_option maxHeartbeats 800000 in
theorem refSplitNo5 (k : Nat) (Ab : Option Addr) (nb cb : Nat) (W : Int) (w : World) (hk : k ≤ 255) (hnb : nb ≤ maxLen) (hW : W < 1 ∨ 65536 < W ∨ (1 ≤ W ∧ W ≤ 65536 ∧ (k : Int) * W < nb)) :
    Calls Try.prog 25 #[.int .i64 (k : Int), .slice Ab nb cb, .int .i64 W] w fun e w' => e = .returned (.tuple #[.slice none 0 0, .int .i64 (if W < 1 ∨ 65536 < W then 2 else 260)]) ∧ w' = w := by
  unfold maxLen at hnb
  rcases hW with hW | hW | ⟨h1, h2, h3⟩
  · rw [if_pos (.inl hW)]
    go_enter Try.func25, Try.ntmps25
    go_wp2
    first | go_ret2 | go_ret
    exact ⟨rfl, rfl⟩
  · rw [if_pos (.inr hW)]
    go_enter Try.func25, Try.ntmps25
    go_wp2
    first | go_ret2 | go_ret
    exact ⟨rfl, rfl⟩
  · rw [if_neg (by omega)]
    obtain ⟨T, hT⟩ : ∃ T, (k : Int) * W = T := ⟨_, rfl⟩
    have hTb : 0 ≤ T ∧ T ≤ 255 * 65536 := by
      rw [← hT]
      exact ⟨Int.mul_nonneg (by omega) (by omega), Int.mul_le_mul (by omega) h2 (by omega) (by omega)⟩
    rw [hT] at h3
    go_enter Try.func25, Try.ntmps25
    go_wp2
    first | go_ret2 | go_ret
    exact ⟨rfl, rfl⟩
/-- A row of noughts, of which the first q are a text's. -/
theorem Cod.pad_set (t : List UInt8) (W q : Nat) (h : q < t.length) (hW : t.length ≤ W) : (Cod.pad (t.take q) W).set q t[q] = Cod.pad (t.take (q + 1)) W := by
  unfold Cod.pad
  rw [List.set_append_right _ _ (by rw [List.length_take]; omega), List.length_take, Nat.min_eq_left (by omega), Nat.sub_self, show W - q = (W - (q + 1)) + 1 from by omega, List.replicate_succ, List.set_cons_zero, List.take_succ_eq_append_getElem h, List.append_assoc, List.length_append, List.length_take, Nat.min_eq_left (by omega)]
  rfl
set_option maxHeartbeats 1600000 in
theorem refSplit5 (k W : Nat) (B : Nat) (Ab : Option Addr) (nb cb : Nat) (bs : List UInt8) (w : World) (hr : Rd w B Ab (bs.map bv)) (hB : B ≤ w.heap.size) (hn : bs.length = nb) (hk : k ≤ 255) (hW : 1 ≤ W ∧ W ≤ 65536) (hle : nb ≤ k * W) :
    Calls Try.prog 25 #[.int .i64 (k : Int), .slice Ab nb cb, .int .i64 (W : Int)] w (NewR (Cod.splitD bs W k) 0 w) := by
  obtain ⟨T, hT⟩ : ∃ T, k * W = T := ⟨_, rfl⟩
  have hTb : T ≤ 255 * 65536 := by
    rw [← hT]
    exact Nat.mul_le_mul hk hW.2
  have hmul : (k : Int) * (W : Int) = (T : Int) := by rw [← hT]; simp
  have HT := Lib.hid hT
  rw [hT] at hle
  have hmk := makeB W (by omega)
  have HR := Lib.hid hr
  have HNB := Lib.hid hn
  have e1 : decide ((W : Int) < 1) = false := by simp; omega
  have e2 : decide ((65536 : Int) < (W : Int)) = false := by simp; omega
  have e3 : decide (T < nb) = false := by simp; omega
  have e4 : decide ((T : Int) < (nb : Int)) = false := by simp; omega
  clear hT hr hn
  go_enter Try.func25, Try.ntmps25
  go_wp2
  go_loopw [8, 9, 10, 11] (fun l i _ _ wr => ∃ (p : Nat) (A' : Option Addr) (c' : Nat) (M : List RowB), i = .int .i64 p ∧ p ≤ k ∧ l = .slice A' p c' ∧ Hid (MadeI w (Cod.splitD bs W p) A' c' M wr)) (fun _ i _ _ _ => k - (intOf i).toNat)
  case atStart => exact ⟨0, none, 0, [], rfl, Nat.zero_le _, rfl, MadeI.nil w w 0 (Below.refl _ _)⟩
  case round =>
    clear hmul
    obtain ⟨p, A', c', M, rfl, hp, rfl, HI⟩ := hrel
    have HML := Lib.hid HI.out.len
    rw [Cod.splitD_length] at HML
    have hz := HI.out.below.size
    by_cases hlt : p < k
    · obtain ⟨x, hx⟩ : ∃ x, p * W = x := ⟨_, rfl⟩
      have hxb : x ≤ 255 * 65536 := by
        rw [← hx]
        exact Nat.mul_le_mul (by omega) hW.2
      have hpx : (p : Int) * (W : Int) = (x : Int) := by rw [← hx]; simp
      have HX := Lib.hid hx
      obtain ⟨t, ht⟩ : ∃ t, Hid ((bs.drop (p * W)).take W = t) := ⟨_, rfl⟩
      have HTL : Hid (t.length = min (nb - x) W) := by
        show _ = _
        rw [← ht.out, List.length_take, List.length_drop, HNB.out, HX.out]
        omega
      have HTC : Hid (Cod.pad t W = Cod.cutRow bs W p) := (show _ = _ by rw [← ht.out]; rfl)
      have HTG : Hid (∀ q (h : q < t.length), ∃ h' : x + q < bs.length, t[q] = bs[x + q]) := fun q h => by
        have h1 := HTL.out
        have hn1 := HNB.out
        refine ⟨by omega, ?_⟩
        have : ∀ (u : List UInt8) (hu : u = t) (h2 : q < u.length), u[q] = t[q] := fun u hu h2 => by subst hu; rfl
        rw [← this _ ht.out (by rw [ht.out]; exact h)]
        simp [HX.out]
      have HPU := Lib.hid (fun A3 n3 c3 w2 hb ho A4 c4 w4 ho4 hg4 hb4 => HI.out.push (x := Cod.cutRow bs W p) (r := ⟨A3, n3, c3, Cod.cutRow bs W p⟩) (w2 := w2) (w3 := w4) (A3 := A4) (c3 := c4) rfl hb ho ho4 hg4 hb4)
      rw [Cod.splitD_length, ← Cod.splitD_next] at HPU
      have HOO := Lib.hid HI.out.own
      rw [Cod.splitD_length] at HOO
      have HBW := Lib.hid HI.out.below
      have HBO := Lib.hid ((Below.refl wr.heap.size wr).alloc (Nat.le_refl _) (.cells (madeCells #[.int .u8 0] W) 5))
      have HOW := Lib.hid (own_made wr wr.heap.size 5 (.int .u8 0) W W (Nat.le_refl _) (Nat.le_refl _) (by unfold maxLen; omega))
      rw [show List.replicate W (Value.int .u8 0) = (Cod.pad (t.take 0) W).map bv from by simp [Cod.pad, bv]] at HOW
      obtain ⟨w1, hw1⟩ : ∃ w1, Hid (w1 = wr) := ⟨_, rfl⟩
      rw [← hw1.out] at HPU HOO HBW hz HBO HOW
      clear HI ht hx
      go_wp2
      rw [← hw1.out]
      go_loopw [11] (fun at_ w2 => ∃ q : Nat, at_ = .int .i64 q ∧ q ≤ W ∧ Hid (q ≤ t.length) ∧ Hid (w2.ownsRow w1.heap.size 5 1 (.slice (some ⟨w1.heap.size, 0, none⟩) W W) W ((Cod.pad (t.take q) W).map bv)) ∧ Hid (Below w1.heap.size w1 w2)) (fun at_ _ => W - (intOf at_).toNat)
      case atStart =>
        refine ⟨0, rfl, Nat.zero_le _, (by show 0 ≤ _; omega), ?_, ?_⟩
        · rw [hw1.out] at HOW ⊢
          exact HOW
        · rw [hw1.out] at HBO ⊢
          exact HBO
      case round =>
        clear HBO HOW hw1
        obtain ⟨q, rfl, hqW, HQT, HO, HB2⟩ := hrel
        have hz2 := HB2.out.size
        by_cases hq1 : q < W
        · by_cases hq2 : x + q < nb
          · have hqt : q < t.length := by rw [HTL.out]; omega
            obtain ⟨h', hg'⟩ := HTG.out q hqt
            obtain ⟨ad, rfl, hab, hcell⟩ := (HR.out.below ((HBW.out.via HB2.out).mono hB)).byte h'
            rw [← hg'] at hcell
            have htw : t.length ≤ W := by rw [HTL.out]; omega
            have hpl : q < (Cod.pad (t.take q) W).length := by rw [Cod.pad_length _ _ (by rw [List.length_take]; omega)]; exact hq1
            obtain ⟨hc1, hf1, hset⟩ := own_byte HO.out (j := q) hpl
            have hset' := hset t[q] 0
            rw [Cod.pad_set t W q hqt htw] at hset'
            have HST := Lib.hid hset'
            have HBN := Lib.hid (HB2.out.setCell (p := ⟨w1.heap.size, q, none⟩) (Nat.le_refl _) (.int .u8 (t[q].toNat : Int)))
            have HQN : Hid (q + 1 ≤ t.length) := hqt
            clear hset hset' HQT
            generalize t[q].toNat = v at *
            go_wp2
            go_roundw
            case rel => exact ⟨q + 1, by go_num, hq1, HQN, HST, HBN⟩
            case measure => simp [intOf]; omega
          · have HPE : Hid (Cod.pad (t.take q) W = Cod.cutRow bs W p) := by
              show _ = _
              rw [List.take_of_length_le (by rw [HTL.out]; omega), HTC.out]
            rw [HPE.out] at HO
            have hxq : ¬ ((x : Int) + (q : Int) < (nb : Int)) := by omega
            go_wp2_with (at_builtin; refine appR _ rfl (.tmp 57) (.tmp 59) rfl w.heap.size A' p c' (M.map RowB.v) rfl ((own_via HOO.out HB2.out).alloc _) _ (some ⟨wr.heap.size, 0, none⟩) 1 1 [.slice (some ⟨w1.heap.size, 0, none⟩) W W] rfl rfl (Rd.new wr _ _ _ rfl) (one_rows (L := [⟨some ⟨w1.heap.size, 0, none⟩, W, W, []⟩])) (by omega) (by simp; omega) ?_; intro A4 c4 w4 ho4 hg4 hb4)
            go_roundw
            case rel => exact ⟨p + 1, A4, c4, _, by go_num, hlt, rfl, HPU.out _ _ _ wr HB2.out HO.out A4 c4 w4 ho4 hg4 hb4⟩
            case measure => simp [intOf]; omega
        · have HPE : Hid (Cod.pad (t.take q) W = Cod.cutRow bs W p) := by
            show _ = _
            rw [List.take_of_length_le (by rw [HTL.out]; omega), HTC.out]
          rw [HPE.out] at HO
          go_wp2_with (at_builtin; refine appR _ rfl (.tmp 57) (.tmp 59) rfl w.heap.size A' p c' (M.map RowB.v) rfl ((own_via HOO.out HB2.out).alloc _) _ (some ⟨wr.heap.size, 0, none⟩) 1 1 [.slice (some ⟨w1.heap.size, 0, none⟩) W W] rfl rfl (Rd.new wr _ _ _ rfl) (one_rows (L := [⟨some ⟨w1.heap.size, 0, none⟩, W, W, []⟩])) (by omega) (by simp; omega) ?_; intro A4 c4 w4 ho4 hg4 hb4)
          go_roundw
          case rel => exact ⟨p + 1, A4, c4, _, by go_num, hlt, rfl, HPU.out _ _ _ wr HB2.out HO.out A4 c4 w4 ho4 hg4 hb4⟩
          case measure => simp [intOf]; omega
    · obtain rfl : p = k := by omega
      have hI := HI.out
      have ho := hI.own
      rw [Cod.splitD_length] at ho
      go_wp2
      first | go_ret2 | go_ret
      exact ⟨A', p, c', M, rfl, hI.bs, HML.out, ho, hI.rows, hI.below⟩
end Cib
