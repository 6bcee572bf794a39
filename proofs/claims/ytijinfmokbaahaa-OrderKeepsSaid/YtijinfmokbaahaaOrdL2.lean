/- OrderMeets: the walk. -/
import Derived.Test.YtijinfmokbaahaaOrdL1
import Derived.OpenShut
set_option linter.unusedVariables false
set_option linter.unusedSimpArgs false
set_option maxRecDepth 20000
namespace Cib
open Go Go.RowKit Go.Proofs
theorem few_of {l : List (ByteArray × ByteArray)} (h : Ord.fewB l = true) (hl : l.length ≤ 100) : ∀ x ∈ l, x.1.size ≤ 200 ∧ x.2.size ≤ 200 := by
  unfold Ord.fewB at h
  rw [Bool.and_eq_true, List.take_of_length_le hl, List.all_eq_true] at h
  intro x hx
  have := h.1 x hx
  unfold Ord.fitS at this
  rw [Bool.and_eq_true, decide_eq_true_eq, decide_eq_true_eq] at this
  exact this
theorem refEmpty20' (s : ByteArray × ByteArray) (W : World) : Calls Try.prog 18 #[sp s] W fun e w' => e = .returned (.bool (Ord.emp s.1 s.2)) ∧ Below W.heap.size W w' := by
  rw [← Ord.emp_ref]
  exact refEmpty20 s W
theorem spanNe (a b c d : ByteArray) (W : World) : Sem.run Try.prog (binOp .neq 26 (.agg #[.string a, .string b]) (.agg #[.string c, .string d])) W = .ok (.bool (!(a.toList == c.toList && b.toList == d.toList))) W := by
  go_simp
  by_cases h1 : a.toList = c.toList <;> by_cases h2 : b.toList = d.toList <;> simp [h1, h2]
/-- What stays of the two spans that came in. -/
structure MS (W w : World) (f t f' t' : ByteArray) : Prop where
  a : Two w W.heap.size f t
  b : Two w (W.heap.size + 1) f' t'
  below : Below W.heap.size W w
section
variable {W w w' : World} {f t f' t' : ByteArray}
theorem MS.via (h : MS W w f t f' t') (hb : Below w.heap.size w w') : MS W w' f t f' t' := ⟨h.a.below hb h.a.lt, h.b.below hb h.b.lt, h.below.via hb⟩
theorem MS.alloc (h : MS W w f t f' t') (o : Obj) : MS W (w.alloc o) f t f' t' := h.via ((Below.refl _ _).alloc (Nat.le_refl _) o)
end
set_option maxHeartbeats 8000000 in
theorem lawMeets (f t f' t' key : ByteArray) (W : World) : Calls Try.prog 5 #[.agg #[.string f, .string t], .agg #[.string f', .string t'], .string key] W fun e w' => e = .returned (.bool true) ∧ Below W.heap.size W w' := by
  have HO := Lib.hid lawOrders
  have HW : Hid (MS W ((W.alloc (.cells #[.string f, .string t] 26)).alloc (.cells #[.string f', .string t'] 26)) f t f' t') := by
    refine Lib.hid ⟨⟨#[.string f, .string t], (Blk.new _ _ _).alloc _, rfl, rfl⟩, ⟨#[.string f', .string t'], ?_, rfl, rfl⟩, ((Below.refl _ _).alloc (Nat.le_refl _) _).alloc (by simp) _⟩
    have := Blk.new (W.alloc (.cells #[.string f, .string t] 26)) 26 #[.string f', .string t']
    simpa using this
  obtain ⟨r1, hr1⟩ : ∃ r, Ord.shortB [key] = r := ⟨_, rfl⟩
  obtain ⟨r2, hr2⟩ : ∃ r, Ord.fewB [(f, t), (f', t')] = r := ⟨_, rfl⟩
  have HSH : Hid (∀ w : World, Calls Try.prog 8 #[.slice (some ⟨w.heap.size, 0, none⟩) 1 1] (w.alloc (.cells #[.string key] 9)) fun e w' => e = .returned (.bool r1) ∧ Below w.heap.size w w') := fun w => by
    have := lawShort (w := w.alloc (.cells #[.string key] 9)) (l := [key]) (Rd.new w #[.string key] 9 (0, 0) rfl) rfl (by unfold maxLen; simp) 1
    rw [hr1] at this
    exact this.mono fun e w' ⟨he, hw⟩ => ⟨he, by rw [hw]; exact (Below.refl _ _).alloc (Nat.le_refl _) _⟩
  have HFW : Hid (∀ w : World, Calls Try.prog 14 #[.slice (some ⟨w.heap.size, 0, none⟩) 2 2] (w.alloc (.cells #[.string f, .string t, .string f', .string t'] 26)) fun e w' => e = .returned (.bool r2) ∧ Below w.heap.size w w') := fun w => by
    have := lawFew (w := w.alloc (.cells #[.string f, .string t, .string f', .string t'] 26)) (l := [(f, t), (f', t')]) (Rd.new w #[.string f, .string t, .string f', .string t'] 26 (0, 0) rfl) rfl (by unfold maxLen; simp) 2
    rw [hr2] at this
    exact this.mono fun e w' ⟨he, hw⟩ => ⟨he, by rw [hw]; exact (Below.refl _ _).alloc (Nat.le_refl _) _⟩
  clear hr1 hr2
  obtain ⟨sa, hsa⟩ : ∃ x, Ord.top f f' = x := ⟨_, rfl⟩
  obtain ⟨sb, hsb⟩ : ∃ x, Ord.low t t' = x := ⟨_, rfl⟩
  have HM1 : Hid (∀ w : World, _) := Lib.hid fun w => ordMeet f t f' t' w
  have HM2 : Hid (∀ w : World, _) := Lib.hid fun w => ordMeet f' t' f t w
  rw [Ord.top_comm f' f, Ord.low_comm t' t] at HM2
  rw [hsa, hsb] at HM1 HM2
  have HIA : Hid (∀ w : World, _) := Lib.hid fun w => refIn20 (f, t) key w
  have HIB : Hid (∀ w : World, _) := Lib.hid fun w => refIn20 (f', t') key w
  have HIS : Hid (∀ w : World, _) := Lib.hid fun w => refIn20 (sa, sb) key w
  have HES : Hid (∀ w : World, _) := Lib.hid fun w => refEmpty20' (sa, sb) w
  have HFA : Hid (∀ w : World, _) := Lib.hid fun w => refIn20 (f, t) sa w
  have HFB : Hid (∀ w : World, _) := Lib.hid fun w => refIn20 (f', t') sa w
  have hmk := Ord.inn_meet f t f' t' key
  have hms := Ord.inn_meet f t f' t' sa
  rw [hsa, hsb] at hmk hms
  rw [Ord.inn_from] at hms
  have hee : Ord.emp sa sb = true → Ord.inn sa sb key = false := Ord.inn_emp
  unfold sp at HIA HIB HIS HES HFA HFB
  dsimp only at HIA HIB HIS HES HFA HFB
  rw [hmk] at HIS hee
  clear hmk hsa hsb
  generalize Ord.emp sa sb = E at *
  generalize Ord.inn f t key = i1 at *
  generalize Ord.inn f' t' key = i2 at *
  generalize Ord.inn f t sa = j1 at *
  generalize Ord.inn f' t' sa = j2 at *
  have HEEX := Lib.hid hee
  have HMSX := Lib.hid hms
  clear hee hms
  go_enter Try.func5, Try.ntmps5
  go_upto_region 0 with fail
  go_cut [3, 4, 6] (fun x3 x4 x6 wx => x3 = .pointer (some ⟨W.heap.size, 0, none⟩) ∧ x4 = .pointer (some ⟨W.heap.size + 1, 0, none⟩) ∧ x6 = .bool false ∧ Hid (MS W wx f t f' t'))
  case first =>
    go_wp2
    go_meet; exact ⟨rfl, rfl, rfl, HW⟩
  case rest =>
  obtain ⟨rfl, rfl, rfl, HMS⟩ := hcut
  clear HW
  have d0 := HMS.out.a.c0
  have d1 := HMS.out.a.c1
  have d2 := HMS.out.b.c0
  have d3 := HMS.out.b.c1
  go_wp2_with fail
  refine (HSH.out _).mono ?_
  rintro e w1 ⟨rfl, hb1⟩
  have M1 := Lib.hid (HMS.out.via hb1)
  clear d0 d1 d2 d3
  have d0 := M1.out.a.c0
  have d1 := M1.out.a.c1
  have d2 := M1.out.b.c0
  have d3 := M1.out.b.c1
  cases r1
  · go_wp2_with (go_at_call 9; refine (HO.out _).mono ?_; rintro e w2 ⟨rfl, hb2⟩)
    go_ret
    exact ⟨rfl, (M1.out.via hb2).below⟩
  go_wp2_with fail
  refine (HFW.out _).mono ?_
  rintro e w2 ⟨rfl, hb2⟩
  have M2 := Lib.hid (M1.out.via hb2)
  clear d0 d1 d2 d3
  have d0 := M2.out.a.c0
  have d1 := M2.out.a.c1
  have d2 := M2.out.b.c0
  have d3 := M2.out.b.c1
  cases r2
  · go_wp2_with (go_at_call 9; refine (HO.out _).mono ?_; rintro e w3 ⟨rfl, hb3⟩)
    go_ret
    exact ⟨rfl, (M2.out.via hb3).below⟩
  cases E
  · obtain ⟨rfl, rfl⟩ : j1 = true ∧ j2 = true := by
      have := HMSX.out
      cases j1 <;> cases j2 <;> simp_all
    clear HEEX HMSX
    simp only [Bool.false_eq_true, if_false] at HM1 HM2
    go_wp2_with fail
    refine (HM1.out _).mono ?_
    rintro e w3 ⟨rfl, hb3⟩
    have M3 := Lib.hid (M2.out.via hb3)
    clear d0 d1 d2 d3
    have d0 := M3.out.a.c0
    have d1 := M3.out.a.c1
    have d2 := M3.out.b.c0
    have d3 := M3.out.b.c1
    have A3 : Hid (Two (w3.alloc (.cells #[.string sa, .string sb] 26)) w3.heap.size sa sb) := ⟨_, Blk.new _ _ _, rfl, rfl⟩
    have N3 := Lib.hid (M3.out.alloc (.cells #[.string sa, .string sb] 26))
    clear d0 d1 d2 d3
    have d0 := N3.out.a.c0
    have d1 := N3.out.a.c1
    have d2 := N3.out.b.c0
    have d3 := N3.out.b.c1
    go_wp2_with fail
    refine (HM2.out _).mono ?_
    rintro e w4 ⟨rfl, hb4⟩
    have M4 := Lib.hid (N3.out.via hb4)
    clear d0 d1 d2 d3
    have d0 := M4.out.a.c0
    have d1 := M4.out.a.c1
    have d2 := M4.out.b.c0
    have d3 := M4.out.b.c1
    have A4 := Lib.hid (A3.out.below hb4 A3.out.lt)
    have d4 := A4.out.c0
    have d5 := A4.out.c1
    have N4 := Lib.hid (M4.out.alloc (.cells #[.string sa, .string sb] 26))
    have B4 : Hid (Two (w4.alloc (.cells #[.string sa, .string sb] 26)) w3.heap.size sa sb) := A4.out.below ((Below.refl _ _).alloc (Nat.le_refl _) _) A4.out.lt
    have T4 : Hid (Two (w4.alloc (.cells #[.string sa, .string sb] 26)) w4.heap.size sa sb) := ⟨_, Blk.new _ _ _, rfl, rfl⟩
    clear d0 d1 d2 d3 d4 d5
    have d0 := N4.out.a.c0
    have d1 := N4.out.a.c1
    have d2 := N4.out.b.c0
    have d3 := N4.out.b.c1
    have d4 := B4.out.c0
    have d5 := B4.out.c1
    have t0 := T4.out.c0
    have t1 := T4.out.c1
    have q := spanNe sa sb sa sb (w4.alloc (.cells #[.string sa, .string sb] 26))
    rw [show (!(sa.toList == sa.toList && sb.toList == sb.toList)) = false by simp] at q
    go_wp2_with fail
    refine (HIA.out _).mono ?_
    rintro e w5 ⟨rfl, hb5⟩
    have M5 := Lib.hid (N4.out.via hb5)
    clear d0 d1 d2 d3
    have d0 := M5.out.a.c0
    have d1 := M5.out.a.c1
    have d2 := M5.out.b.c0
    have d3 := M5.out.b.c1
    have A5 := Lib.hid (B4.out.below hb5 B4.out.lt)
    clear d4 d5 t0 t1 q
    have d4 := A5.out.c0
    have d5 := A5.out.c1
    cases i1
    · simp only [Bool.false_and] at HIS
      go_wp2_with fail
      refine (HES.out _).mono ?_
      rintro e w6 ⟨rfl, hb6⟩
      have M6 := Lib.hid (M5.out.via hb6)
      clear d0 d1 d2 d3
      have d0 := M6.out.a.c0
      have d1 := M6.out.a.c1
      have d2 := M6.out.b.c0
      have d3 := M6.out.b.c1
      have A6 := Lib.hid (A5.out.below hb6 A5.out.lt)
      clear d4 d5
      have d4 := A6.out.c0
      have d5 := A6.out.c1
      go_wp2_with fail
      refine (HIS.out _).mono ?_
      rintro e w7 ⟨rfl, hb7⟩
      have M7 := Lib.hid (M6.out.via hb7)
      clear d0 d1 d2 d3
      have d0 := M7.out.a.c0
      have d1 := M7.out.a.c1
      have d2 := M7.out.b.c0
      have d3 := M7.out.b.c1
      have A7 := Lib.hid (A6.out.below hb7 A6.out.lt)
      clear d4 d5
      have d4 := A7.out.c0
      have d5 := A7.out.c1
      go_wp2_with fail
      refine (HFA.out _).mono ?_
      rintro e w8 ⟨rfl, hb8⟩
      have M8 := Lib.hid (M7.out.via hb8)
      clear d0 d1 d2 d3
      have d0 := M8.out.a.c0
      have d1 := M8.out.a.c1
      have d2 := M8.out.b.c0
      have d3 := M8.out.b.c1
      have A8 := Lib.hid (A7.out.below hb8 A7.out.lt)
      clear d4 d5
      have d4 := A8.out.c0
      have d5 := A8.out.c1
      go_wp2_with fail
      refine (HFB.out _).mono ?_
      rintro e w9 ⟨rfl, hb9⟩
      have M9 := Lib.hid (M8.out.via hb9)
      clear d0 d1 d2 d3
      have d0 := M9.out.a.c0
      have d1 := M9.out.a.c1
      have d2 := M9.out.b.c0
      have d3 := M9.out.b.c1
      have A9 := Lib.hid (A8.out.below hb9 A8.out.lt)
      clear d4 d5
      have d4 := A9.out.c0
      have d5 := A9.out.c1
      go_wp2_with (go_at_call 9; refine (HO.out _).mono ?_; rintro e w19 ⟨rfl, hb19⟩)
      go_ret
      exact ⟨rfl, (M9.out.via hb19).below⟩
    · simp only [Bool.true_and] at HIS
      go_wp2_with fail
      refine (HIB.out _).mono ?_
      rintro e w6 ⟨rfl, hb6⟩
      have M6 := Lib.hid (M5.out.via hb6)
      clear d0 d1 d2 d3
      have d0 := M6.out.a.c0
      have d1 := M6.out.a.c1
      have d2 := M6.out.b.c0
      have d3 := M6.out.b.c1
      have A6 := Lib.hid (A5.out.below hb6 A5.out.lt)
      clear d4 d5
      have d4 := A6.out.c0
      have d5 := A6.out.c1
      go_wp2_with fail
      refine (HES.out _).mono ?_
      rintro e w7 ⟨rfl, hb7⟩
      have M7 := Lib.hid (M6.out.via hb7)
      clear d0 d1 d2 d3
      have d0 := M7.out.a.c0
      have d1 := M7.out.a.c1
      have d2 := M7.out.b.c0
      have d3 := M7.out.b.c1
      have A7 := Lib.hid (A6.out.below hb7 A6.out.lt)
      clear d4 d5
      have d4 := A7.out.c0
      have d5 := A7.out.c1
      go_wp2_with fail
      refine (HIS.out _).mono ?_
      rintro e w8 ⟨rfl, hb8⟩
      have M8 := Lib.hid (M7.out.via hb8)
      clear d0 d1 d2 d3
      have d0 := M8.out.a.c0
      have d1 := M8.out.a.c1
      have d2 := M8.out.b.c0
      have d3 := M8.out.b.c1
      have A8 := Lib.hid (A7.out.below hb8 A7.out.lt)
      clear d4 d5
      have d4 := A8.out.c0
      have d5 := A8.out.c1
      go_wp2_with fail
      refine (HFA.out _).mono ?_
      rintro e w9 ⟨rfl, hb9⟩
      have M9 := Lib.hid (M8.out.via hb9)
      clear d0 d1 d2 d3
      have d0 := M9.out.a.c0
      have d1 := M9.out.a.c1
      have d2 := M9.out.b.c0
      have d3 := M9.out.b.c1
      have A9 := Lib.hid (A8.out.below hb9 A8.out.lt)
      clear d4 d5
      have d4 := A9.out.c0
      have d5 := A9.out.c1
      go_wp2_with fail
      refine (HFB.out _).mono ?_
      rintro e w10 ⟨rfl, hb10⟩
      have M10 := Lib.hid (M9.out.via hb10)
      clear d0 d1 d2 d3
      have d0 := M10.out.a.c0
      have d1 := M10.out.a.c1
      have d2 := M10.out.b.c0
      have d3 := M10.out.b.c1
      have A10 := Lib.hid (A9.out.below hb10 A9.out.lt)
      clear d4 d5
      have d4 := A10.out.c0
      have d5 := A10.out.c1
      go_wp2_with (go_at_call 9; refine (HO.out _).mono ?_; rintro e w19 ⟨rfl, hb19⟩)
      go_ret
      exact ⟨rfl, (M10.out.via hb19).below⟩
  · have HEE := Lib.hid (HEEX.out rfl)
    clear HEEX HMSX
    simp only [if_true] at HM1 HM2
    go_wp2_with fail
    refine (HM1.out _).mono ?_
    rintro e w3 ⟨rfl, hb3⟩
    have M3 := Lib.hid (M2.out.via hb3)
    clear d0 d1 d2 d3
    have d0 := M3.out.a.c0
    have d1 := M3.out.a.c1
    have d2 := M3.out.b.c0
    have d3 := M3.out.b.c1
    have A3 : Hid (Two (w3.alloc (.cells #[.string (⟨#[]⟩ : ByteArray), .string (⟨#[]⟩ : ByteArray)] 26)) w3.heap.size (⟨#[]⟩ : ByteArray) (⟨#[]⟩ : ByteArray)) := ⟨_, Blk.new _ _ _, rfl, rfl⟩
    have N3 := Lib.hid (M3.out.alloc (.cells #[.string (⟨#[]⟩ : ByteArray), .string (⟨#[]⟩ : ByteArray)] 26))
    clear d0 d1 d2 d3
    have d0 := N3.out.a.c0
    have d1 := N3.out.a.c1
    have d2 := N3.out.b.c0
    have d3 := N3.out.b.c1
    go_wp2_with fail
    refine (HM2.out _).mono ?_
    rintro e w4 ⟨rfl, hb4⟩
    have M4 := Lib.hid (N3.out.via hb4)
    clear d0 d1 d2 d3
    have d0 := M4.out.a.c0
    have d1 := M4.out.a.c1
    have d2 := M4.out.b.c0
    have d3 := M4.out.b.c1
    have A4 := Lib.hid (A3.out.below hb4 A3.out.lt)
    have d4 := A4.out.c0
    have d5 := A4.out.c1
    have N4 := Lib.hid (M4.out.alloc (.cells #[.string (⟨#[]⟩ : ByteArray), .string (⟨#[]⟩ : ByteArray)] 26))
    have B4 : Hid (Two (w4.alloc (.cells #[.string (⟨#[]⟩ : ByteArray), .string (⟨#[]⟩ : ByteArray)] 26)) w3.heap.size (⟨#[]⟩ : ByteArray) (⟨#[]⟩ : ByteArray)) := A4.out.below ((Below.refl _ _).alloc (Nat.le_refl _) _) A4.out.lt
    have T4 : Hid (Two (w4.alloc (.cells #[.string (⟨#[]⟩ : ByteArray), .string (⟨#[]⟩ : ByteArray)] 26)) w4.heap.size (⟨#[]⟩ : ByteArray) (⟨#[]⟩ : ByteArray)) := ⟨_, Blk.new _ _ _, rfl, rfl⟩
    clear d0 d1 d2 d3 d4 d5
    have d0 := N4.out.a.c0
    have d1 := N4.out.a.c1
    have d2 := N4.out.b.c0
    have d3 := N4.out.b.c1
    have d4 := B4.out.c0
    have d5 := B4.out.c1
    have t0 := T4.out.c0
    have t1 := T4.out.c1
    have q := spanNe (⟨#[]⟩ : ByteArray) (⟨#[]⟩ : ByteArray) (⟨#[]⟩ : ByteArray) (⟨#[]⟩ : ByteArray) (w4.alloc (.cells #[.string (⟨#[]⟩ : ByteArray), .string (⟨#[]⟩ : ByteArray)] 26))
    rw [show (!((⟨#[]⟩ : ByteArray).toList == (⟨#[]⟩ : ByteArray).toList && (⟨#[]⟩ : ByteArray).toList == (⟨#[]⟩ : ByteArray).toList)) = false by simp] at q
    go_wp2_with fail
    refine (HIA.out _).mono ?_
    rintro e w5 ⟨rfl, hb5⟩
    have M5 := Lib.hid (N4.out.via hb5)
    clear d0 d1 d2 d3
    have d0 := M5.out.a.c0
    have d1 := M5.out.a.c1
    have d2 := M5.out.b.c0
    have d3 := M5.out.b.c1
    have A5 := Lib.hid (B4.out.below hb5 B4.out.lt)
    clear d4 d5 t0 t1 q
    have d4 := A5.out.c0
    have d5 := A5.out.c1
    cases i1
    · have q := spanEq ⟨#[]⟩ ⟨#[]⟩ ⟨#[]⟩ ⟨#[]⟩ w5
      rw [show ((⟨#[]⟩ : ByteArray).toList == (⟨#[]⟩ : ByteArray).toList && (⟨#[]⟩ : ByteArray).toList == (⟨#[]⟩ : ByteArray).toList) = true by simp] at q
      go_wp2_with (go_at_call 9; refine (HO.out _).mono ?_; rintro e w9 ⟨rfl, hb9⟩)
      go_ret
      exact ⟨rfl, (M5.out.via hb9).below⟩
    · go_wp2_with fail
      refine (HIB.out _).mono ?_
      rintro e w6 ⟨rfl, hb6⟩
      have M6 := Lib.hid (M5.out.via hb6)
      clear d0 d1 d2 d3
      have d0 := M6.out.a.c0
      have d1 := M6.out.a.c1
      have d2 := M6.out.b.c0
      have d3 := M6.out.b.c1
      have A6 := Lib.hid (A5.out.below hb6 A5.out.lt)
      clear d4 d5
      have d4 := A6.out.c0
      have d5 := A6.out.c1
      obtain rfl : i2 = false := by simpa using HEE.out
      have q := spanEq ⟨#[]⟩ ⟨#[]⟩ ⟨#[]⟩ ⟨#[]⟩ w6
      rw [show ((⟨#[]⟩ : ByteArray).toList == (⟨#[]⟩ : ByteArray).toList && (⟨#[]⟩ : ByteArray).toList == (⟨#[]⟩ : ByteArray).toList) = true by simp] at q
      go_wp2_with (go_at_call 9; refine (HO.out _).mono ?_; rintro e w9 ⟨rfl, hb9⟩)
      go_ret
      exact ⟨rfl, (M6.out.via hb9).below⟩
end Cib
