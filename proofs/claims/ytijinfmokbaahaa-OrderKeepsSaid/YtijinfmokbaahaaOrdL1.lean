/- OrderPrefixes: the walk. -/
import Derived.Test.YtijinfmokbaahaaOrdG
import Derived.Test.YtijinfmokbaahaaOrdQ
set_option linter.unusedVariables false
set_option linter.unusedSimpArgs false
set_option maxRecDepth 20000
namespace Cib
open Go Go.RowKit Go.Proofs
theorem short_of {l : List ByteArray} (h : Ord.shortB l = true) (hl : l.length ≤ 100) : ∀ x ∈ l, x.size ≤ 200 := by
  unfold Ord.shortB at h
  rw [Bool.and_eq_true, List.take_of_length_le hl, List.all_eq_true] at h
  exact fun x hx => of_decide_eq_true (h.1 x hx)
set_option maxHeartbeats 4000000 in
theorem lawPrefixes (p key : ByteArray) (W : World) : Calls Try.prog 3 #[.string p, .string key] W fun e w' => e = .returned (.bool true) ∧ Below W.heap.size W w' := by
  have HO := Lib.hid lawOrders
  have HSH := Lib.hid (short_of (l := [p, key]))
  have hsh := lawShort (w := W.alloc (.cells #[.string p, .string key] 9)) (l := [p, key]) (Rd.new W #[.string p, .string key] 9 (0, 0) rfl) rfl (by unfold maxLen; simp) 2
  generalize Ord.shortB [p, key] = r at hsh HSH
  have HS := Lib.hid hsh
  clear hsh
  go_enter Try.func3, Try.ntmps3
  cases r
  · go_wp2_with (first | (go_at_call 8; refine HS.out.mono ?_; rintro e w' ⟨rfl, rfl⟩) | (go_at_call 9; refine (HO.out _).mono ?_; rintro e w2 ⟨rfl, hb2⟩))
    go_ret
    exact ⟨rfl, ((Below.refl _ _).alloc (Nat.le_refl _) _).via hb2⟩
  · have hp := HSH.out rfl (by simp) p (by simp)
    have hk := HSH.out rfl (by simp) key (by simp)
    have hpr := fun W => ordPrefix p (by omega) W
    have hin1 := fun W => ordIn (p, Ord.up p) key W
    have hin2 := fun W => ordIn (p, Ord.up p) (p ++ key) W
    have hem := fun W => ordEmptyB (p, Ord.up p) W
    have hbe := fun W => ordBegins key p (by omega) W
    dsimp only at hin1 hin2 hem
    rw [Ord.inn_up] at hin1
    rw [Ord.inn_up_app] at hin2
    rw [Ord.emp_up] at hem
    rw [Ord.begins_eq] at hbe
    change ∀ W, Calls _ _ _ W fun e w' => e = .returned (sp (p, Ord.up p)) ∧ _ at hpr
    generalize Ord.up p = u at *
    generalize p.data.toList.isPrefixOf key.data.toList = b at *
    unfold sp at hpr hin1 hin2 hem
    dsimp only at hpr hin1 hin2 hem
    have HPR := Lib.hid hpr
    have HI1 := Lib.hid hin1
    have HI2 := Lib.hid hin2
    have HEM := Lib.hid hem
    have HBE := Lib.hid hbe
    clear hpr hin1 hin2 hem hbe
    go_wp2_with (first | (go_at_call 8; refine HS.out.mono ?_; rintro e w' ⟨rfl, rfl⟩) | (go_at_call 10; refine (HPR.out _).mono ?_; rintro e w2 ⟨rfl, hb2⟩))
    have h3 : ∃ w3, w2.alloc (.cells #[.string p, .string u] 26) = w3 ∧ Two w3 w2.heap.size p u ∧ Below W.heap.size W w3 := by
      have hbx := ((Below.refl W.heap.size W).alloc (Nat.le_refl _) (.cells #[.string p, .string key] 9)).via hb2
      exact ⟨_, rfl, ⟨_, Blk.new _ _ _, rfl, rfl⟩, hbx.alloc hbx.size _⟩
    obtain ⟨w3, hw3, ht3, hb3⟩ := h3
    rw [hw3]
    clear hw3 hb2
    refine (HI1.out _).mono ?_
    rintro e w4 ⟨rfl, hb4⟩
    have HT4 := Lib.hid (ht3.below hb4 ht3.lt)
    have HB4 := Lib.hid (hb3.via hb4)
    clear ht3 hb3 hb4
    have d0 := HT4.out.c0
    have d1 := HT4.out.c1
    go_wp2_with (first | (go_at_call 12; refine (HBE.out _).mono ?_; rintro e w' ⟨rfl, rfl⟩) | (go_at_call 11; refine (HI2.out _).mono ?_; rintro e w5 ⟨rfl, hb5⟩; have HT5 := Lib.hid (HT4.out.below hb5 HT4.out.lt); have HB5 := Lib.hid (HB4.out.via hb5); clear hb5 d0 d1; have d0 := HT5.out.c0; have d1 := HT5.out.c1))
    all_goals (refine (HEM.out _).mono ?_; rintro e w6 ⟨rfl, hb6⟩; have HT6 := Lib.hid (HT5.out.below hb6 HT5.out.lt); have HB6 := Lib.hid (HB5.out.via hb6); clear hb6 d0 d1; have d0 := HT6.out.c0; have d1 := HT6.out.c1)
    all_goals go_wp2_with (go_at_call 9; refine (HO.out _).mono ?_; rintro e w7 ⟨rfl, hb7⟩)
    all_goals (go_ret; exact ⟨rfl, HB6.out.via hb7⟩)
end Cib
