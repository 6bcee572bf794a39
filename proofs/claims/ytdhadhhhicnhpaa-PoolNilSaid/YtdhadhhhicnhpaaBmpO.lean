/- List of a map that was made. -/
import Derived.Test.YtdhadhhhicnhpaaBmpT
import Derived.Test.YtdhadhhhicnhpaaBmpY
set_option linter.unusedVariables false
set_option linter.unusedSimpArgs false
set_option maxRecDepth 20000
namespace Bmp
theorem trues_snoc : ∀ (l : List Bool) (b : Bool) (i : Nat), trues (l ++ [b]) i = trues l i ++ (if b then [i + l.length] else [])
  | [], b, i => by cases b <;> simp [trues]
  | a :: l, b, i => by
    have ih := trues_snoc l b (i + 1)
    cases a
    · simp only [List.cons_append, trues, Bool.false_eq_true, if_false, ih, List.length_cons]
      rw [show i + 1 + l.length = i + (l.length + 1) from by omega]
    · simp only [List.cons_append, trues, if_true, ih, List.length_cons]
      rw [show i + 1 + l.length = i + (l.length + 1) from by omega]
theorem trues_take {bs : List Bool} {j : Nat} (h : j < bs.length) : trues (bs.take (j + 1)) 0 = trues (bs.take j) 0 ++ (if bs[j] then [j] else []) := by
  rw [List.take_succ_eq_append_getElem h, trues_snoc, List.length_take, Nat.zero_add, Nat.min_eq_left (Nat.le_of_lt h)]
end Bmp
namespace Cib
open Go Go.RowKit Go.Proofs
variable {w w' : World} {base g c : Nat} {bs : List Bool} {A : Option Addr}
theorem bmItself (i : Int) (w : World) : Calls Try.prog 42 #[.int .i64 i] w fun e w' => e = .returned (.int .i64 i) ∧ w' = w := by
  go_enter Try.func42, Try.ntmps42
  go_wp2
  go_ret
  exact ⟨rfl, rfl⟩
structure LsI (bs : List Bool) (w : World) (j m : Nat) (A : Option Addr) (c : Nat) (wr : World) : Prop where
  len : (Bmp.trues (bs.take j) 0).length = m
  own : wr.ownsRow w.heap.size 3 1 (.slice A m c) m ((Bmp.trues (bs.take j) 0).map iv)
  below : Below w.heap.size w wr
theorem LsI.skip {wr : World} {j m : Nat} (h : LsI bs w j m A c wr) (hj : j < bs.length) (hb : bs[j] = false) : LsI bs w (j + 1) m A c wr := by
  have e : Bmp.trues (bs.take (j + 1)) 0 = Bmp.trues (bs.take j) 0 := by rw [Bmp.trues_take hj, hb]; simp
  exact ⟨by rw [e]; exact h.len, by rw [e]; exact h.own, h.below⟩
theorem LsI.push {wr w1 : World} {j m : Nat} {A1 : Option Addr} {c1 : Nat} (h : LsI bs w j m A c wr) (hj : j < bs.length) (hb : bs[j] = true)
    (ho : w1.ownsRow w.heap.size 3 1 (.slice A1 (m + 1) c1) (m + 1) ((Bmp.trues (bs.take j) 0).map iv ++ [iv j])) (hb' : Below w.heap.size (wr.alloc (.cells #[iv j] 3)) w1) : LsI bs w (j + 1) (m + 1) A1 c1 w1 := by
  have e : Bmp.trues (bs.take (j + 1)) 0 = Bmp.trues (bs.take j) 0 ++ [j] := by rw [Bmp.trues_take hj, hb]; simp
  exact ⟨by rw [e, List.length_append, h.len]; rfl, by rw [e, List.map_append]; exact ho, (h.below.alloc h.below.size _).trans hb'⟩
theorem bmThose (h : Mp w base g bs A c) : Calls Try.prog 41 #[.int .i64 (bs.length : Int), .func (.func 34) #[.pointer (some ⟨g, 0, none⟩)] #[], .func (.func 42) #[] #[]] w fun e w' => NewI (Bmp.trues bs 0) w e w' := by
  have hN := h.n
  have HM := Lib.hid h
  have HF : Hid (bs.take bs.length = bs) := (show _ = _ from List.take_length)
  obtain ⟨N, HL⟩ : ∃ N, Hid (bs.length = N) := ⟨_, rfl⟩
  rw [HL.out] at hN HF ⊢
  obtain ⟨i0, hi, hz0, hz1, hz2⟩ := info_parts infoInt
  clear h
  go_enter Try.func41, Try.ntmps41
  go_wp2
  go_loopw [7, 10] (fun l i wr => ∃ (j m : Nat) (A' : Option Addr) (c' : Nat), l = .slice A' m c' ∧ i = .int .i64 j ∧ j ≤ N ∧ m ≤ j ∧ Hid (LsI bs w j m A' c' wr)) (fun _ i _ => N - (intOf i).toNat)
  case atStart => exact ⟨0, 0, none, 0, rfl, rfl, Nat.zero_le _, Nat.le_refl _, ⟨rfl, World.ownsRow_nil _ _ _ _, Below.refl _ _⟩⟩
  case round =>
    obtain ⟨j, m, A', c', rfl, rfl, hj, hm, hI⟩ := hrel
    by_cases hlt : j < N
    · have hjl : j < bs.length := by rw [HL.out]; exact hlt
      have HHAS := Lib.hid (bmHas (HM.out.below hI.out.below) j)
      rw [Bmp.has_in hjl] at HHAS
      have HIT := Lib.hid (bmItself (j : Int) wr)
      have hB := hI.out.below.size
      have HO := Lib.hid hI.out.own
      have hns : ((Bmp.trues (bs.take j) 0).map iv).length = m := by rw [List.length_map]; exact hI.out.len
      by_cases hb : bs[j] = true
      · have HP := Lib.hid (fun A1 c1 w1 ho hb' => LsI.push (A1 := A1) (c1 := c1) (w1 := w1) hI.out hjl hb ho hb')
        rw [hb] at HHAS
        clear hb hjl hI
        go_wp2_with fail
        refine HHAS.out.mono ?_
        rintro e w2 ⟨rfl, rfl⟩
        go_wp2_with fail
        refine HIT.out.mono ?_
        rintro e w2 ⟨rfl, rfl⟩
        go_wp2_with (at_builtin; refine wpList_app _ rfl (.tmp 16) (.tmp 20) _ rfl w.heap.size 3 i0 _ 8 Try.underlying27 hi hz0 hz1 hz2 rfl A' m c' ((Bmp.trues (bs.take j) 0).map iv) rfl (HO.out.alloc _) _ (some ⟨w2.heap.size, 0, none⟩) 1 1 [iv j] rfl rfl (Rd.new w2 _ _ _ rfl) (iv_one (l := [j])) (by unfold maxLen; omega) (by omega) (by simp; omega) ?_; intro A1 c1' w1 ho1 hg1 hb1; have HX := Lib.hid (HP.out _ _ _ ho1 hb1); clear hg1 hb1)
        go_roundw
        case rel => exact ⟨j + 1, m + 1, A1, c1', rfl, by go_num, hlt, by omega, HX⟩
        case measure => simp [intOf]; omega
      · have hb' : bs[j] = false := by simpa using hb
        have HX := Lib.hid (hI.out.skip hjl hb')
        rw [hb'] at HHAS
        clear hb hb' hjl hI
        go_wp2_with fail
        refine HHAS.out.mono ?_
        rintro e w2 ⟨rfl, rfl⟩
        go_wp2
        go_roundw
        case rel => exact ⟨j + 1, m, A', c', rfl, by go_num, hlt, by omega, HX⟩
        case measure => simp [intOf]; omega
    · obtain rfl : j = N := by omega
      have h1 := hI.out.len
      have h2 := hI.out.own
      rw [HF.out] at h1 h2
      have H1 := Lib.hid h1
      have H2 := Lib.hid h2
      have H3 := Lib.hid hI.out.below
      clear h1 h2 hI
      go_wp2
      go_ret
      exact ⟨A', m, c', rfl, H1.out, H2.out, H3.out⟩
theorem bmList (h : Mp w base g bs A c) : Calls Try.prog 31 #[.pointer (some ⟨g, 0, none⟩)] w fun e w' => NewI (Bmp.trues bs 0) w e w' := by
  have H1 := Lib.hid (bmLen h)
  have H2 := Lib.hid (bmThose h)
  clear h
  go_enter Try.func31, Try.ntmps31
  go_wp2_with fail
  refine H1.out.mono ?_
  rintro e w1 ⟨rfl, rfl⟩
  go_wp2_with fail
  refine H2.out.mono ?_
  rintro e w2 ⟨A2, n2, c2, rfl, h1, h2, h3⟩
  go_wp2
  go_ret
  exact ⟨A2, n2, c2, rfl, h1, h2, h3⟩
end Cib
