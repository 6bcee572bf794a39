/- Order: cut: the pieces of a span outside of another one. -/
import Derived.Test.YtijinfmokbaahaaUniM
set_option linter.unusedVariables false
set_option linter.unusedSimpArgs false
set_option maxRecDepth 20000
namespace Cib
open Go Go.RowKit Go.Proofs
/-- In cut: the list under way, the span, and what it has in common with the other one. -/
structure CutB (P : Nat → Prop) (g b c : Nat) (x m : Sn) (O : List Sn) (w : World) : Prop where
  out : Out P g w O
  new : ∀ k, w.heap.size ≤ k → P k
  span : Blk w b 26 #[.string x.1, .string x.2]
  com : Blk w c 26 #[.string m.1, .string m.2]
  nb : ¬ P b ∧ b ≠ g
  nc : ¬ P c ∧ c ≠ g
section
variable {P : Nat → Prop} {g b c : Nat} {x m : Sn} {O O' : List Sn} {w w' : World}
theorem CutB.bar (h : CutB P g b c x m O w) (ho : Out P g w' O') (hb : Bar P g w w') : CutB P g b c x m O' w' :=
  ⟨ho, fun k hk => h.new k (Nat.le_trans hb.size hk), hb.blk h.span h.nb.1 h.nb.2, hb.blk h.com h.nc.1 h.nc.2, h.nb, h.nc⟩
theorem CutB.x0 (h : CutB P g b c x m O w) : w.cell? ⟨b, 0, none⟩ = some (.string x.1) := h.span.cell 0
theorem CutB.x1 (h : CutB P g b c x m O w) : w.cell? ⟨b, 1, none⟩ = some (.string x.2) := h.span.cell 1
theorem CutB.m0 (h : CutB P g b c x m O w) : w.cell? ⟨c, 0, none⟩ = some (.string m.1) := h.com.cell 0
theorem CutB.m1 (h : CutB P g b c x m O w) : w.cell? ⟨c, 1, none⟩ = some (.string m.2) := h.com.cell 1
end
set_option maxHeartbeats 2000000 in
theorem cutOut (P : Nat → Prop) (g : Nat) (O : List Sn) (x s : Sn) (w : World) (h : Out P g w O) (hO : O.length ≤ 400) (hP : ∀ k, w.heap.size ≤ k → P k) :
    Calls Try.prog 36 #[.agg #[.string x.1, .string x.2], .agg #[.string s.1, .string s.2], keepV g] w fun e w' => e = .returned (.tuple #[]) ∧ Out P g w' (O ++ Ord.cutL s x) ∧ Bar P g w w' := by
  obtain ⟨f, hf⟩ : ∃ f, f = Ord.top x.1 s.1 := ⟨_, rfl⟩
  obtain ⟨t, ht⟩ : ∃ t, t = Ord.low x.2 s.2 := ⟨_, rfl⟩
  obtain ⟨E, hE⟩ : ∃ E, Ord.emp f t = E := ⟨_, rfl⟩
  have HC : Hid (Ord.cutL s x = if E then [x] else (if Ord.lt x.1 f then [(x.1, f)] else []) ++ (if !Ord.no t && Ord.ahd t x.2 then [(t, x.2)] else [])) := Lib.hid (by rw [← hE, hf, ht]; rfl)
  have HM := Lib.hid (fun W => ordMeet x.1 x.2 s.1 s.2 W)
  rw [← hf, ← ht, hE] at HM
  have HA := Lib.hid (fun W => ordAhead t x.2 W)
  have HK := Lib.hid (fun (P : Nat → Prop) (O : List Sn) (f t : ByteArray) (W : World) h1 h2 h3 => keepOut P g O f t W h1 h2 h3)
  have HH := Lib.hid (And.intro h (And.intro hO hP))
  obtain ⟨x1, x2⟩ := x
  obtain ⟨s1, s2⟩ := s
  dsimp only at HM HC HA ⊢
  clear hf ht hE h hO hP
  have HS : Hid (∀ (w2 : World) (mf mt : ByteArray), Below ((w.alloc (.cells #[.string x1, .string x2] 26)).alloc (.cells #[.string s1, .string s2] 26)).heap.size ((w.alloc (.cells #[.string x1, .string x2] 26)).alloc (.cells #[.string s1, .string s2] 26)) w2 →
      ∃ P2 : Nat → Prop, CutB P2 g w.heap.size w2.heap.size (x1, x2) (mf, mt) O (w2.alloc (.cells #[.string mf, .string mt] 26)) ∧ ∀ w' O', Out P2 g w' O' → Bar P2 g (w2.alloc (.cells #[.string mf, .string mt] 26)) w' → Out P g w' O' ∧ Bar P g w w') := Lib.hid (fun w2 mf mt hb => by
    obtain ⟨h1, h2, h3⟩ := HH.out
    have hgw : g < w.heap.size := by
      obtain ⟨_, A, k, c, hb, _⟩ := h1
      exact hb.lt
    have hsz : w.heap.size + 2 ≤ w2.heap.size := by
      have := hb.size
      simp at this
      omega
    have hbw : Below w.heap.size w w2 := (((Below.refl w.heap.size w).alloc (Nat.le_refl _) _).alloc (by simp) _).trans (hb.mono (by simp; omega))
    have hbw3 : Below w.heap.size w (w2.alloc (.cells #[.string mf, .string mt] 26)) := hbw.alloc (by omega) _
    refine ⟨fun k => (P k ∧ k < w.heap.size) ∨ w2.heap.size + 1 ≤ k, ⟨?_, ?_, ?_, Blk.new _ _ _, ?_, ?_⟩, fun w' O' ho hbr => ⟨ho.more h1.no fun k hk hp => ?_, (Bar.of hbw3).trans (hbr.more fun k hk hp => ?_)⟩⟩
    · exact (h1.more (P' := fun k => (P k ∧ k < w.heap.size) ∨ w2.heap.size + 1 ≤ k) (fun hp => by rcases hp with hp | hp; exact h1.no hp.1; omega) fun k hk hp => .inl ⟨hp, hk⟩).via hbw3
    · intro k hk
      simp at hk
      exact .inr hk
    · exact (((Blk.new w 26 #[.string x1, .string x2]).alloc _).below hb (by simp; omega)).alloc _
    · exact ⟨fun hp => by rcases hp with hp | hp <;> omega, by omega⟩
    · exact ⟨fun hp => by rcases hp with hp | hp <;> omega, by omega⟩
    · rcases hp with hp | hp
      · exact hp.1
      · exact h3 k (by omega)
    · rcases hp with hp | hp
      · exact hp.1
      · exact h3 k (by omega))
  obtain ⟨Z, hZ⟩ : ∃ Z, Ord.cutL (s1, s2) (x1, x2) = Z := ⟨_, rfl⟩
  rw [hZ] at HC ⊢
  clear hZ
  have HO : Hid (O.length ≤ 400) := Lib.hid HH.out.2.1
  clear HH
  unfold keepV
  cases E
  · simp only [Bool.false_eq_true, if_false] at HM HC
    go_enter Try.func36, Try.ntmps36
    go_upto_if 15 with (go_at_call 19; refine (HM.out _).mono ?_; rintro e w2 ⟨rfl, hb2⟩; have HB2 := Lib.hid hb2; clear hb2)
    obtain ⟨P2, hcb, hend⟩ := HS.out w2 f t HB2.out
    have HCB := Lib.hid hcb
    have HEND := Lib.hid hend
    clear hcb hend HS HB2
    generalize w2.alloc (.cells #[.string f, .string t] 26) = w3 at HCB HEND ⊢
    generalize w.heap.size = b at HCB ⊢
    generalize w2.heap.size = c at HCB ⊢
    have HBR : Hid (Bar P2 g w3 w3) := Lib.hid (Bar.refl _ _ _)
    have hx0 := HCB.out.x0
    have hm0 := HCB.out.m0
    dsimp only at hx0 hm0
    obtain ⟨r1, hr1⟩ : ∃ r, Ord.lt x1 f = r := ⟨_, rfl⟩
    obtain ⟨r2, hr2⟩ : ∃ r, Ord.no t = r := ⟨_, rfl⟩
    obtain ⟨r3, hr3⟩ : ∃ r, Ord.ahd t x2 = r := ⟨_, rfl⟩
    rw [hr1, hr2, hr3] at HC
    rw [hr3] at HA
    have hq1 : Op.bytesLess x1.toList f.toList = r1 := hr1
    have hq2 : t.toList.isEmpty = r2 := hr2
    clear hr1 hr2 hr3
    obtain ⟨O1, hO1⟩ : ∃ O1, O ++ (if r1 = true then [(x1, f)] else []) = O1 := ⟨_, rfl⟩
    have HO1 := Lib.hid hO1
    clear hO1
    go_upto_if 23 with fail
    go_cut [] from 24 (fun wx => Hid (CutB P2 g b c (x1, x2) (f, t) O1 wx) ∧ Hid (Bar P2 g w3 wx))
    case first =>
      clear hq2
      cases r1
      · have e : O1 = O := by rw [← HO1.out]; simp
        subst e
        go_wp2_with fail
        go_meet
        exact ⟨HCB, HBR⟩
      · have e : O ++ [(x1, f)] = O1 := by rw [← HO1.out]; simp
        have HKK := Lib.hid (HK.out P2 O x1 f w3 HCB.out.out (by have := HO.out; omega) HCB.out.new)
        rw [e] at HKK
        clear e HO1
        go_wp2_with (refine HKK.out.mono ?_; rintro e w4 ⟨rfl, ho4, hb4⟩)
        go_meet
        exact ⟨Lib.hid (HCB.out.bar ho4 hb4), Lib.hid (HBR.out.trans hb4)⟩
    case rest =>
      obtain ⟨HCB2, HBR2⟩ := hcut
      clear HCB HBR hx0 hm0 hq1
      have HL1 : Hid (O1.length ≤ 401) := Lib.hid (by rw [← HO1.out, List.length_append]; have := HO.out; split <;> simp <;> omega)
      have HZ : Hid (O ++ Z = O1 ++ (if (!r2 && r3) = true then [(t, x2)] else [])) := Lib.hid (by rw [HC.out, ← HO1.out, List.append_assoc])
      clear HC HO HO1
      have hx1 := HCB2.out.x1
      have hm1 := HCB2.out.m1
      dsimp only at hx1 hm1
      have HKK := Lib.hid (HK.out P2 O1 t x2 wc HCB2.out.out (by have := HL1.out; omega) HCB2.out.new)
      have HFIN : Hid (∀ w' O', Out P2 g w' O' → Bar P2 g wc w' → Out P g w' O' ∧ Bar P g w w') := Lib.hid (fun w' O' h1 h2 => HEND.out w' O' h1 (HBR2.out.trans h2))
      clear HEND HBR2
      cases r2 <;> cases r3
      all_goals go_wp2_with (first | (go_at_call 28; refine (HA.out _).mono ?_; rintro e wa ⟨rfl, rfl⟩) | (refine HKK.out.mono ?_; rintro e w4 ⟨rfl, ho4, hb4⟩))
      all_goals (first | go_end0 | refine bodyPost_ret (results_none rfl _ _ _) rfl ?_)
      all_goals first
        | (refine ⟨rfl, ?_⟩; rw [HZ.out]; simp only [Bool.not_false, Bool.not_true, Bool.and_false, Bool.and_true, Bool.false_and, Bool.true_and, Bool.false_eq_true, if_true, if_false, List.append_nil]; exact HFIN.out _ _ HCB2.out.out (Bar.refl _ _ _))
        | (refine ⟨rfl, ?_⟩; rw [HZ.out]; simp only [Bool.not_false, Bool.not_true, Bool.and_false, Bool.and_true, Bool.false_and, Bool.true_and, Bool.false_eq_true, if_true, if_false, List.append_nil]; exact HFIN.out _ _ ho4 hb4)
  · simp only [if_true] at HM HC
    go_enter Try.func36, Try.ntmps36
    go_upto_if 15 with (go_at_call 19; refine (HM.out _).mono ?_; rintro e w2 ⟨rfl, hb2⟩; have HB2 := Lib.hid hb2; clear hb2)
    obtain ⟨P2, hcb, hend⟩ := HS.out w2 ⟨#[]⟩ ⟨#[]⟩ HB2.out
    have HCB := Lib.hid hcb
    have HEND := Lib.hid hend
    clear hcb hend HS HB2
    generalize w2.alloc (.cells #[.string ⟨#[]⟩, .string ⟨#[]⟩] 26) = w3 at HCB HEND ⊢
    generalize w.heap.size = b at HCB ⊢
    generalize w2.heap.size = c at HCB ⊢
    have hx0 := HCB.out.x0
    have hx1 := HCB.out.x1
    dsimp only at hx0 hx1
    have HKK := Lib.hid (HK.out P2 O x1 x2 w3 HCB.out.out (by have := HO.out; omega) HCB.out.new)
    go_wp2_with (refine HKK.out.mono ?_; rintro e w4 ⟨rfl, ho4, hb4⟩)
    first | go_end0 | refine bodyPost_ret (results_none rfl _ _ _) rfl ?_
    have := HEND.out w4 _ ho4 hb4
    rw [← HC.out] at this
    exact ⟨rfl, this⟩
end Cib
