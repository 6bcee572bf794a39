/- Order: the sort of spans whole. Printed by genS.py. -/
import Derived.Test.YtijinfmokbaahaaOrdI
import Derived.Test.YtijinfmokbaahaaOrdJ
import Derived.Test.YtijinfmokbaahaaOrdN
import Derived.Test.YtijinfmokbaahaaOrdK
import Derived.Test.YtijinfmokbaahaaOrdU
import Derived.Test.YtijinfmokbaahaaOrdH
import Derived.Test.YtijinfmokbaahaaOrdB
set_option linter.unusedVariables false
set_option linter.unusedSimpArgs false
set_option maxRecDepth 20000
namespace Cib
open Go Go.RowKit Go.Proofs
set_option maxHeartbeats 1000000 in
theorem ordPdqN (g n c B : Nat) (hg : B ≤ g) (hs : n ≤ 45) : ∀ (N a b lim : Nat) (d : Array Sn) (w : World), b - a < N → Lies w g d → d.size = n → a ≤ b → b ≤ n → lim ≤ 6 → Go.Sort.Below ltS a b d →
    Calls Try.prog 41 #[.slice (some ⟨g, 0, none⟩) n c, .int .i64 a, .int .i64 b, .int .i64 lim, cmpV] w fun e w' => e = .returned (.tuple #[]) ∧ ∃ d', Go.Sort.PermIn a b d d' ∧ Go.Sort.SortedIn ltS a b d' ∧ Lies w' g d' ∧ Below B w w' := by
  intro N
  induction N with
  | zero => intro a b lim d w h; omega
  | succ N ih =>
    intro a b lim d w hN h hn hab hb hlim hbel
    have IH := Lib.hid ih
    have HU := Lib.hid (Und.start hab (by omega) hbel)
    have HH := Lib.hid h
    have HZ0 := Lib.hid hn
    clear ih h hn hbel
    unfold cmpV at *
    go_enter Try.func41, Try.ntmps41
    go_wp2
    go_loopw [1, 2, 3, 10, 11] (fun s1 s2 s3 s8 s9 wr => ∃ (a' b' l' : Nat) (wb wp : Bool) (dk : Array Sn), s1 = .int .i64 a' ∧ s2 = .int .i64 b' ∧ s3 = .int .i64 l' ∧ s8 = .bool wb ∧ s9 = .bool wp ∧ a' ≤ b' ∧ b' ≤ n ∧ b' - a' ≤ b - a ∧ l' ≤ 6 ∧ Hid (dk.size = n) ∧ Hid (Und ltS a b d a' b' dk) ∧ Hid (Lies wr g dk) ∧ Hid (Below B w wr)) (fun s1 s2 _ _ _ _ => (Go.RowKit.intOf s2 - Go.RowKit.intOf s1).toNat)
    case atStart => exact ⟨a, b, lim, true, true, d, rfl, rfl, rfl, rfl, rfl, hab, hb, Nat.le_refl _, hlim, HZ0, HU, HH, Lib.hid (Below.refl _ _)⟩
    case round =>
      clear HZ0 HU HH
      obtain ⟨a', b', l', wb, wp, dk, rfl, rfl, rfl, rfl, rfl, hab', hb', hba, hl', HZ, HU, HL, HB⟩ := hrel
      by_cases h12 : b' - a' ≤ 12
      · skip
        have h12z : (b' : Int) - (a' : Int) ≤ 12 := by omega
        have hc := Lib.hid (ordIns g n c a' b' B dk wr HL.out HZ.out hg hab' hb' hs)
        go_wp2_with (go_at_call 44; refine hc.out.mono ?_; rintro e w1 ⟨rfl, L1, B1⟩)
        first | go_end0 | refine bodyPost_ret (results_none rfl _ _ _) rfl ?_
        have hi := Go.Sort.insertionSort_holds ltS_swo dk a' b' hab' (by have := HZ.out; omega)
        have hd := HU.out.done hi.1 hi.2
        exact ⟨rfl, _, hd.1, hd.2, L1, HB.out.trans B1⟩
      · have h12z : ¬ ((b' : Int) - (a' : Int) ≤ 12) := by omega
        by_cases hl0 : l' = 0
        · skip
          subst hl0
          have hc := Lib.hid (ordHeap g n c a' b' B dk wr HL.out HZ.out hg (by omega) hb' hs)
          go_wp2_with (go_at_call 45; refine hc.out.mono ?_; rintro e w1 ⟨rfl, L1, B1⟩)
          first | go_end0 | refine bodyPost_ret (results_none rfl _ _ _) rfl ?_
          have hi := Go.Sort.heapSort_holds ltS_swo dk a' b' hab' (by have := HZ.out; omega)
          have hd := HU.out.done hi.1 hi.2
          exact ⟨rfl, _, hd.1, hd.2, L1, HB.out.trans B1⟩
        · have hl0z : ¬ ((l' : Int) = 0) := by omega
          have h13 : a' + 12 < b' := by omega
          go_upto_if 39 with fail
          go_cut [3] from 21 (fun s3 wc => ∃ (l2 : Nat) (d1 : Array Sn), s3 = .int .i64 l2 ∧ l2 ≤ 6 ∧ Hid (d1.size = n) ∧ Hid (Und ltS a b d a' b' d1) ∧ Hid (Lies wc g d1) ∧ Hid (Below B w wc))
          case first =>
            cases wb
            · have hc := Lib.hid (ordBreak g n c a' b' B dk wr HL.out HZ.out hg h13 hb' hs)
              have hwl : IntKind.i64.wrap ((l' : Int) - 1) = (l' : Int) - 1 := by rw [IntKind.wrap_i64]; omega
              go_wp2_with (go_at_call 46; refine hc.out.mono ?_; rintro e w1 ⟨rfl, d1, P1, L1, B1⟩)
              go_meet
              case rel => exact ⟨l' - 1, d1, by go_num, by omega, Lib.hid (P1.1.trans HZ.out), Lib.hid (HU.out.step P1), Lib.hid L1, Lib.hid (HB.out.trans B1)⟩
            · go_wp2_with fail
              go_meet
              case rel => exact ⟨l', dk, rfl, hl', HZ, HU, HL, HB⟩
          case rest =>
            clear HZ HU HL HB
            obtain ⟨l2, d1, rfl, hl2, HZ1, HU1, HL1, HB1⟩ := hcut
            have hc := Lib.hid (ordChoose g n c a' b' B d1 wc HL1.out HZ1.out hg h13 hb' hs)
            go_upto_region 15 with (go_at_call 47; refine hc.out.mono ?_; rintro e w2 ⟨p, t, rfl, hp1, hp2, ht, L2, B2⟩; have HL2 := Lib.hid L2; have HB2 := Lib.hid (HB1.out.trans B2); clear hc HL1 HB1 L2 B2)
            go_cut [75] from 21 (fun s75 wx => (∃ q : Bool, s75 = .bool q) ∧ wx = w2)
            case first =>
              by_cases ht1 : t = 1
              · cases wb <;> cases wp <;> (subst ht1; go_wp2_with fail; go_meet; exact ⟨⟨_, rfl⟩, rfl⟩)
              · cases wb <;> cases wp <;> (go_wp2_with fail; go_meet; exact ⟨⟨_, rfl⟩, rfl⟩)
            case rest =>
              obtain ⟨⟨q, rfl⟩, hwx⟩ := hcut
              replace hwx := hwx.symm
              subst hwx
              go_upto_if 75 with fail
              go_cut [] from 21 (fun wx => Hid (Lies wx g d1) ∧ Hid (Below B w wx))
              case first =>
                cases q
                · go_wp2_with fail
                  go_meet
                  case rel => exact ⟨HL2, HB2⟩
                · have hc := Lib.hid (ordPartial g n c a' b' B d1 _ HL2.out HZ1.out hg (by omega) hb' hs)
                  go_wp2_with (go_at_call 49; refine hc.out.mono ?_; rintro e w4 ⟨tt, rfl, L4, S4, B4⟩)
                  all_goals first
                    | (go_meet; exact ⟨Lib.hid L4, Lib.hid (HB2.out.trans B4)⟩)
                    | ((try simp only [Exit.inBlock, Exit.then]); refine bodyPost_ret (results_none rfl _ _ _) rfl ?_; have hd := HU1.out.done (Go.Sort.permIn_refl _ _ _) (S4 (by assumption)); exact ⟨rfl, _, hd.1, hd.2, L4, HB2.out.trans B4⟩)
              case rest =>
                obtain ⟨HL3, HB3⟩ := hcut
                clear HL2 HB2
                go_upto_region 17 with fail
                go_cut [97] from 21 (fun s97 wx => ∃ q : Bool, s97 = .bool q ∧ (q = true → 0 < a' ∧ ltS d1[a' - 1]! d1[p]! = false) ∧ Hid (Lies wx g d1) ∧ Hid (Below B w wx))
                case first =>
                  have hpz : (p : Int) < (n : Int) := by omega
                  rcases Nat.eq_zero_or_pos a' with ha0 | ha0
                  · have haz : ¬ (0 : Int) < (a' : Int) := by omega
                    have had : decide ((0 : Int) < (a' : Int)) = false := decide_eq_false haz
                    have hae : ¬ 0 < a' := by omega
                    clear ha0
                    go_wp2_with fail
                    refine wp_region_held_drew (S := (fun _ => True)) (by kernel_rfl) trivial (fun _ => ?_)
                    refine wpAnyH_take (i := 0) (v := ?_) rfl (by kernel_rfl) (by kernel_rfl) (by kernel_rfl) (fun _ _ _ h => h) (Or.inl ⟨by rfl, ?_⟩) trivial ?_
                    rotate_left
                    · intro wS hSw
                      go_simp
                      try with_reducible rfl
                    try simp only [List.getElem_toArray, List.getElem_cons_zero, List.getElem_cons_succ, Act.put, List.setIfInBounds_toArray, List.set_cons_zero, List.set_cons_succ]
                    refine wpAnyH_take (i := 1) (v := ?_) rfl (by kernel_rfl) (by kernel_rfl) (by kernel_rfl) (fun _ _ _ h => h) (Or.inl ⟨by rfl, ?_⟩) trivial ?_
                    rotate_left
                    · intro wS hSw
                      go_simp
                      try with_reducible rfl
                    try simp only [List.getElem_toArray, List.getElem_cons_zero, List.getElem_cons_succ, Act.put, List.setIfInBounds_toArray, List.set_cons_zero, List.set_cons_succ]
                    refine wpAnyH_take (i := 2) (v := ?_) rfl (by kernel_rfl) (by kernel_rfl) (by kernel_rfl) (fun _ _ _ h => h) (Or.inl ⟨by rfl, ?_⟩) trivial ?_
                    rotate_left
                    · intro wS hSw
                      go_simp
                      try with_reducible rfl
                    try simp only [List.getElem_toArray, List.getElem_cons_zero, List.getElem_cons_succ, Act.put, List.setIfInBounds_toArray, List.set_cons_zero, List.set_cons_succ]
                    refine wpAnyH_take (i := 3) (v := undef) rfl (by kernel_rfl) (by kernel_rfl) (by kernel_rfl) (fun _ _ _ h => h) (Or.inr ⟨by rfl, rfl⟩) trivial ?_
                    try simp only [List.getElem_toArray, List.getElem_cons_zero, List.getElem_cons_succ, Act.put, List.setIfInBounds_toArray, List.set_cons_zero, List.set_cons_succ]
                    refine wpAnyH_take (i := 4) (v := undef) rfl (by kernel_rfl) (by kernel_rfl) (by kernel_rfl) (fun _ _ _ h => h) (Or.inr ⟨by rfl, rfl⟩) trivial ?_
                    try simp only [List.getElem_toArray, List.getElem_cons_zero, List.getElem_cons_succ, Act.put, List.setIfInBounds_toArray, List.set_cons_zero, List.set_cons_succ]
                    refine wpAnyH_take (i := 5) (v := undef) rfl (by kernel_rfl) (by kernel_rfl) (by kernel_rfl) (fun _ _ _ h => h) (Or.inr ⟨by rfl, rfl⟩) trivial ?_
                    try simp only [List.getElem_toArray, List.getElem_cons_zero, List.getElem_cons_succ, Act.put, List.setIfInBounds_toArray, List.set_cons_zero, List.set_cons_succ]
                    refine wpAnyH_take (i := 6) (v := undef) rfl (by kernel_rfl) (by kernel_rfl) (by kernel_rfl) (fun _ _ _ h => h) (Or.inr ⟨by rfl, rfl⟩) trivial ?_
                    try simp only [List.getElem_toArray, List.getElem_cons_zero, List.getElem_cons_succ, Act.put, List.setIfInBounds_toArray, List.set_cons_zero, List.set_cons_succ]
                    refine wpAnyH_take (i := 7) (v := undef) rfl (by kernel_rfl) (by kernel_rfl) (by kernel_rfl) (fun _ _ _ h => h) (Or.inr ⟨by rfl, rfl⟩) trivial ?_
                    try simp only [List.getElem_toArray, List.getElem_cons_zero, List.getElem_cons_succ, Act.put, List.setIfInBounds_toArray, List.set_cons_zero, List.set_cons_succ]
                    refine wpAnyH_take (i := 8) (v := undef) rfl (by kernel_rfl) (by kernel_rfl) (by kernel_rfl) (fun _ _ _ h => h) (Or.inr ⟨by rfl, rfl⟩) trivial ?_
                    try simp only [List.getElem_toArray, List.getElem_cons_zero, List.getElem_cons_succ, Act.put, List.setIfInBounds_toArray, List.set_cons_zero, List.set_cons_succ]
                    refine wpAnyH_take (i := 9) (v := undef) rfl (by kernel_rfl) (by kernel_rfl) (by kernel_rfl) (fun _ _ _ h => h) (Or.inr ⟨by rfl, rfl⟩) trivial ?_
                    try simp only [List.getElem_toArray, List.getElem_cons_zero, List.getElem_cons_succ, Act.put, List.setIfInBounds_toArray, List.set_cons_zero, List.set_cons_succ]
                    refine wpAnyH_take (i := 10) (v := undef) rfl (by kernel_rfl) (by kernel_rfl) (by kernel_rfl) (fun _ _ _ h => h) (Or.inr ⟨by rfl, rfl⟩) trivial ?_
                    try simp only [List.getElem_toArray, List.getElem_cons_zero, List.getElem_cons_succ, Act.put, List.setIfInBounds_toArray, List.set_cons_zero, List.set_cons_succ]
                    refine wpAnyH_take (i := 11) (v := undef) rfl (by kernel_rfl) (by kernel_rfl) (by kernel_rfl) (fun _ _ _ h => h) (Or.inr ⟨by rfl, rfl⟩) trivial ?_
                    try simp only [List.getElem_toArray, List.getElem_cons_zero, List.getElem_cons_succ, Act.put, List.setIfInBounds_toArray, List.set_cons_zero, List.set_cons_succ]
                    refine wpAnyH_take (i := 12) (v := undef) rfl (by kernel_rfl) (by kernel_rfl) (by kernel_rfl) (fun _ _ _ h => h) (Or.inr ⟨by rfl, rfl⟩) trivial ?_
                    try simp only [List.getElem_toArray, List.getElem_cons_zero, List.getElem_cons_succ, Act.put, List.setIfInBounds_toArray, List.set_cons_zero, List.set_cons_succ]
                    refine wpAnyH_take (i := 13) (v := undef) rfl (by kernel_rfl) (by kernel_rfl) (by kernel_rfl) (fun _ _ _ h => h) (Or.inr ⟨by rfl, rfl⟩) trivial ?_
                    try simp only [List.getElem_toArray, List.getElem_cons_zero, List.getElem_cons_succ, Act.put, List.setIfInBounds_toArray, List.set_cons_zero, List.set_cons_succ]
                    refine wpAnyH_take (i := 14) (v := undef) rfl (by kernel_rfl) (by kernel_rfl) (by kernel_rfl) (fun _ _ _ h => h) (Or.inr ⟨by rfl, rfl⟩) trivial ?_
                    try simp only [List.getElem_toArray, List.getElem_cons_zero, List.getElem_cons_succ, Act.put, List.setIfInBounds_toArray, List.set_cons_zero, List.set_cons_succ]
                    refine wpAnyH_take (i := 15) (v := undef) rfl (by kernel_rfl) (by kernel_rfl) (by kernel_rfl) (fun _ _ _ h => h) (Or.inr ⟨by rfl, rfl⟩) trivial ?_
                    try simp only [List.getElem_toArray, List.getElem_cons_zero, List.getElem_cons_succ, Act.put, List.setIfInBounds_toArray, List.set_cons_zero, List.set_cons_succ]
                    refine wpAnyH_take (i := 16) (v := ?_) rfl (by kernel_rfl) (by kernel_rfl) (by kernel_rfl) (fun _ _ _ h => h) (Or.inl ⟨by rfl, ?_⟩) trivial ?_
                    rotate_left
                    · intro wS hSw
                      go_simp
                      try with_reducible rfl
                    try simp only [List.getElem_toArray, List.getElem_cons_zero, List.getElem_cons_succ, Act.put, List.setIfInBounds_toArray, List.set_cons_zero, List.set_cons_succ]
                    refine wpAnyH_done (by kernel_rfl) ?_ _
                    try go_wp2_with fail
                    go_meet
                    exact ⟨false, rfl, fun h => (by cases h), Lib.hid (HL3.out.drewN 1), Lib.hid (below_drewN HB3.out 1)⟩
                  · obtain ⟨ap, hap⟩ : ∃ ap, ap = a' - 1 := ⟨_, rfl⟩
                    have haz : (a' : Int) - 1 = (ap : Int) := by omega
                    have haw : IntKind.i64.wrap (ap : Int) = (ap : Int) := by rw [IntKind.wrap_i64]; omega
                    have han : (ap : Int) < (n : Int) := by omega
                    have ha1 : (0 : Int) < (a' : Int) := by omega
                    have had : decide ((0 : Int) < (a' : Int)) = true := decide_eq_true ha1
                    have hapn : ap < n := by omega
                    have HAP := Lib.hid hap
                    clear hap
                    cases hcA : ltS d1[ap]! d1[p]! with
                    | true =>
                      obtain ⟨xA, hxA⟩ : ∃ x, x = d1[ap]! := ⟨_, rfl⟩
                      obtain ⟨yA, hyA⟩ : ∃ x, x = d1[p]! := ⟨_, rfl⟩
                      rw [← hxA, ← hyA] at hcA
                      have hiA : ap < d1.size := by have := HZ1.out; omega
                      have hjA : p < d1.size := by have := HZ1.out; omega
                      have hvA : cfS xA yA < 0 := (cf_lt _ _).2 hcA
                      have hdA : decide (cfS xA yA < 0) = true := decide_eq_true hvA
                      have HXA := Lib.hid (And.intro hxA hyA)
                      have HIA := Lib.hid (And.intro hiA hjA)
                      have HCA := Lib.hid hcA
                      clear hxA hyA hiA hjA hcA
                      go_wp2_with fail
                      refine wp_region_held_drew (S := (fun wQq => Lies wQq g d1 ∧ Below B w wQq)) (by kernel_rfl) (⟨HL3.out.drewN 1, below_drewN HB3.out 1⟩) (fun _ => ?_)
                      refine wpAnyH_take (i := 0) (v := ?_) rfl (by kernel_rfl) (by kernel_rfl) (by kernel_rfl) (fun _ _ _ h => h) (Or.inl ⟨by rfl, ?_⟩) (⟨HL3.out.drewN 1, below_drewN HB3.out 1⟩) ?_
                      rotate_left
                      · intro wS hSw
                        go_simp
                        try with_reducible rfl
                      try simp only [List.getElem_toArray, List.getElem_cons_zero, List.getElem_cons_succ, Act.put, List.setIfInBounds_toArray, List.set_cons_zero, List.set_cons_succ]
                      refine wpAnyH_take (i := 1) (v := ?_) rfl (by kernel_rfl) (by kernel_rfl) (by kernel_rfl) (fun _ _ _ h => h) (Or.inl ⟨by rfl, ?_⟩) (⟨HL3.out.drewN 1, below_drewN HB3.out 1⟩) ?_
                      rotate_left
                      · intro wS hSw
                        go_simp
                        try with_reducible rfl
                      try simp only [List.getElem_toArray, List.getElem_cons_zero, List.getElem_cons_succ, Act.put, List.setIfInBounds_toArray, List.set_cons_zero, List.set_cons_succ]
                      refine wpAnyH_take (i := 2) (v := ?_) rfl (by kernel_rfl) (by kernel_rfl) (by kernel_rfl) (fun _ _ _ h => h) (Or.inl ⟨by rfl, ?_⟩) (⟨HL3.out.drewN 1, below_drewN HB3.out 1⟩) ?_
                      rotate_left
                      · intro wS hSw
                        go_simp
                        try with_reducible rfl
                      try simp only [List.getElem_toArray, List.getElem_cons_zero, List.getElem_cons_succ, Act.put, List.setIfInBounds_toArray, List.set_cons_zero, List.set_cons_succ]
                      refine wpAnyH_take (i := 3) (v := ?_) rfl (by kernel_rfl) (by kernel_rfl) (by kernel_rfl) (fun _ _ _ h => h) (Or.inl ⟨by rfl, ?_⟩) (⟨HL3.out.drewN 1, below_drewN HB3.out 1⟩) ?_
                      rotate_left
                      · intro wS hSw
                        go_simp
                        try with_reducible rfl
                      try simp only [List.getElem_toArray, List.getElem_cons_zero, List.getElem_cons_succ, Act.put, List.setIfInBounds_toArray, List.set_cons_zero, List.set_cons_succ]
                      refine wpAnyH_take (i := 4) (v := ?_) rfl (by kernel_rfl) (by kernel_rfl) (by kernel_rfl) (fun _ _ _ h => h) (Or.inl ⟨by rfl, ?_⟩) (⟨HL3.out.drewN 1, below_drewN HB3.out 1⟩) ?_
                      rotate_left
                      · intro wS hSw
                        go_simp
                        try with_reducible rfl
                      try simp only [List.getElem_toArray, List.getElem_cons_zero, List.getElem_cons_succ, Act.put, List.setIfInBounds_toArray, List.set_cons_zero, List.set_cons_succ]
                      refine wpAnyH_take (i := 5) (v := ?_) rfl (by kernel_rfl) (by kernel_rfl) (by kernel_rfl) (fun _ _ _ h => h) (Or.inl ⟨by rfl, ?_⟩) (⟨HL3.out.drewN 1, below_drewN HB3.out 1⟩) ?_
                      rotate_left
                      · intro wS hSw
                        go_simp
                        try with_reducible rfl
                      try simp only [List.getElem_toArray, List.getElem_cons_zero, List.getElem_cons_succ, Act.put, List.setIfInBounds_toArray, List.set_cons_zero, List.set_cons_succ]
                      refine wpAnyH_take (i := 6) (v := ?_) rfl (by kernel_rfl) (by kernel_rfl) (by kernel_rfl) (fun _ _ _ h => h) (Or.inl ⟨by rfl, ?_⟩) (⟨HL3.out.drewN 1, below_drewN HB3.out 1⟩) ?_
                      rotate_left
                      · intro wS hSw
                        go_simp
                        try with_reducible rfl
                      try simp only [List.getElem_toArray, List.getElem_cons_zero, List.getElem_cons_succ, Act.put, List.setIfInBounds_toArray, List.set_cons_zero, List.set_cons_succ]
                      refine wpAnyH_take (i := 7) (v := ?_) rfl (by kernel_rfl) (by kernel_rfl) (by kernel_rfl) (fun _ _ _ h => h) (Or.inl ⟨by rfl, ?_⟩) (⟨HL3.out.drewN 1, below_drewN HB3.out 1⟩) ?_
                      rotate_left
                      · intro wS hSw
                        go_simp
                        try with_reducible rfl
                      try simp only [List.getElem_toArray, List.getElem_cons_zero, List.getElem_cons_succ, Act.put, List.setIfInBounds_toArray, List.set_cons_zero, List.set_cons_succ]
                      refine wpAnyH_take (i := 9) (v := ?_) rfl (by kernel_rfl) (by kernel_rfl) (by kernel_rfl) (fun _ _ _ h => h) (Or.inl ⟨by rfl, ?_⟩) (⟨HL3.out.drewN 1, below_drewN HB3.out 1⟩) ?_
                      rotate_left
                      · intro wS hSw
                        go_simp
                        try with_reducible rfl
                      try simp only [List.getElem_toArray, List.getElem_cons_zero, List.getElem_cons_succ, Act.put, List.setIfInBounds_toArray, List.set_cons_zero, List.set_cons_succ]
                      refine wpAnyH_take (i := 10) (v := ?_) rfl (by kernel_rfl) (by kernel_rfl) (by kernel_rfl) (fun _ _ _ h => h) (Or.inl ⟨by rfl, ?_⟩) (⟨HL3.out.drewN 1, below_drewN HB3.out 1⟩) ?_
                      rotate_left
                      · intro wS hSw
                        go_simp
                        try with_reducible rfl
                      try simp only [List.getElem_toArray, List.getElem_cons_zero, List.getElem_cons_succ, Act.put, List.setIfInBounds_toArray, List.set_cons_zero, List.set_cons_succ]
                      refine wpAnyH_take (i := 11) (v := ?_) rfl (by kernel_rfl) (by kernel_rfl) (by kernel_rfl) (fun _ _ _ h => h) (Or.inl ⟨by rfl, ?_⟩) (⟨HL3.out.drewN 1, below_drewN HB3.out 1⟩) ?_
                      rotate_left
                      · intro wS hSw
                        go_simp
                        try with_reducible rfl
                      try simp only [List.getElem_toArray, List.getElem_cons_zero, List.getElem_cons_succ, Act.put, List.setIfInBounds_toArray, List.set_cons_zero, List.set_cons_succ]
                      refine wpAnyH_take (i := 8) (v := ?_) rfl (by kernel_rfl) (by kernel_rfl) (by kernel_rfl) (fun _ _ _ h => h) (Or.inl ⟨by rfl, ?_⟩) (⟨HL3.out.drewN 1, below_drewN HB3.out 1⟩) ?_
                      rotate_left
                      · intro wS hSw
                        have hcv := hSw.1.at0 HIA.out.1 HXA.out.1
                        have hcv2 := hSw.1.at1 HIA.out.1 HXA.out.1
                        go_simp
                        try with_reducible rfl
                      try simp only [List.getElem_toArray, List.getElem_cons_zero, List.getElem_cons_succ, Act.put, List.setIfInBounds_toArray, List.set_cons_zero, List.set_cons_succ]
                      refine wpAnyH_take (i := 12) (v := ?_) rfl (by kernel_rfl) (by kernel_rfl) (by kernel_rfl) (fun _ _ _ h => h) (Or.inl ⟨by rfl, ?_⟩) (⟨HL3.out.drewN 1, below_drewN HB3.out 1⟩) ?_
                      rotate_left
                      · intro wS hSw
                        have hcv := hSw.1.at0 HIA.out.2 HXA.out.2
                        have hcv2 := hSw.1.at1 HIA.out.2 HXA.out.2
                        go_simp
                        try with_reducible rfl
                      try simp only [List.getElem_toArray, List.getElem_cons_zero, List.getElem_cons_succ, Act.put, List.setIfInBounds_toArray, List.set_cons_zero, List.set_cons_succ]
                      refine wpAnyH_ready (rs := [13]) (by kernel_rfl) (by simp) ?_
                      refine AllReadyH.cons rfl (fun K hK => ?_) AllReadyH.nil
                      go_simp
                      refine (ordCmp xA yA _).mono ?_
                      rintro e wA ⟨rfl, hbA⟩
                      have HLA := Lib.hid ((HL3.out.drewN 1).below hbA HL3.out.lt)
                      have HBA := Lib.hid ((below_drewN HB3.out 1).trans (hbA.mono (Nat.le_trans hg (Nat.le_of_lt HL3.out.lt))))
                      clear hbA
                      refine hK.out _ _ ⟨HLA.out, HBA.out⟩ (fun _ => ?_)
                      clear hK K
                      try simp only [List.getElem_toArray, List.getElem_cons_zero, List.getElem_cons_succ, Act.put, List.setIfInBounds_toArray, List.set_cons_zero, List.set_cons_succ]
                      refine wpAnyH_take (i := 14) (v := ?_) rfl (by kernel_rfl) (by kernel_rfl) (by kernel_rfl) (fun _ _ _ h => h) (Or.inl ⟨by rfl, ?_⟩) ⟨HLA.out, HBA.out⟩ ?_
                      rotate_left
                      · intro wS hSw
                        go_simp
                        try with_reducible rfl
                      try simp only [List.getElem_toArray, List.getElem_cons_zero, List.getElem_cons_succ, Act.put, List.setIfInBounds_toArray, List.set_cons_zero, List.set_cons_succ]
                      refine wpAnyH_take (i := 15) (v := ?_) rfl (by kernel_rfl) (by kernel_rfl) (by kernel_rfl) (fun _ _ _ h => h) (Or.inl ⟨by rfl, ?_⟩) ⟨HLA.out, HBA.out⟩ ?_
                      rotate_left
                      · intro wS hSw
                        go_simp
                        try with_reducible rfl
                      try simp only [List.getElem_toArray, List.getElem_cons_zero, List.getElem_cons_succ, Act.put, List.setIfInBounds_toArray, List.set_cons_zero, List.set_cons_succ]
                      refine wpAnyH_take (i := 16) (v := ?_) rfl (by kernel_rfl) (by kernel_rfl) (by kernel_rfl) (fun _ _ _ h => h) (Or.inl ⟨by rfl, ?_⟩) ⟨HLA.out, HBA.out⟩ ?_
                      rotate_left
                      · intro wS hSw
                        go_simp
                        try with_reducible rfl
                      try simp only [List.getElem_toArray, List.getElem_cons_zero, List.getElem_cons_succ, Act.put, List.setIfInBounds_toArray, List.set_cons_zero, List.set_cons_succ]
                      refine wpAnyH_done (by kernel_rfl) ?_ _

                      try go_wp2_with fail
                      go_meet
                      exact ⟨false, rfl, fun h => (by cases h), HLA, HBA⟩
                    | false =>
                      have HCC := Lib.hid hcA
                      obtain ⟨xA, hxA⟩ : ∃ x, x = d1[ap]! := ⟨_, rfl⟩
                      obtain ⟨yA, hyA⟩ : ∃ x, x = d1[p]! := ⟨_, rfl⟩
                      rw [← hxA, ← hyA] at hcA
                      have hiA : ap < d1.size := by have := HZ1.out; omega
                      have hjA : p < d1.size := by have := HZ1.out; omega
                      have hvA : ¬ cfS xA yA < 0 := (cf_lt_no _ _).2 hcA
                      have hdA : decide (cfS xA yA < 0) = false := decide_eq_false hvA
                      have HXA := Lib.hid (And.intro hxA hyA)
                      have HIA := Lib.hid (And.intro hiA hjA)
                      have HCA := Lib.hid hcA
                      clear hxA hyA hiA hjA hcA
                      go_wp2_with fail
                      refine wp_region_held_drew (S := (fun wQq => Lies wQq g d1 ∧ Below B w wQq)) (by kernel_rfl) (⟨HL3.out.drewN 1, below_drewN HB3.out 1⟩) (fun _ => ?_)
                      refine wpAnyH_take (i := 0) (v := ?_) rfl (by kernel_rfl) (by kernel_rfl) (by kernel_rfl) (fun _ _ _ h => h) (Or.inl ⟨by rfl, ?_⟩) (⟨HL3.out.drewN 1, below_drewN HB3.out 1⟩) ?_
                      rotate_left
                      · intro wS hSw
                        go_simp
                        try with_reducible rfl
                      try simp only [List.getElem_toArray, List.getElem_cons_zero, List.getElem_cons_succ, Act.put, List.setIfInBounds_toArray, List.set_cons_zero, List.set_cons_succ]
                      refine wpAnyH_take (i := 1) (v := ?_) rfl (by kernel_rfl) (by kernel_rfl) (by kernel_rfl) (fun _ _ _ h => h) (Or.inl ⟨by rfl, ?_⟩) (⟨HL3.out.drewN 1, below_drewN HB3.out 1⟩) ?_
                      rotate_left
                      · intro wS hSw
                        go_simp
                        try with_reducible rfl
                      try simp only [List.getElem_toArray, List.getElem_cons_zero, List.getElem_cons_succ, Act.put, List.setIfInBounds_toArray, List.set_cons_zero, List.set_cons_succ]
                      refine wpAnyH_take (i := 2) (v := ?_) rfl (by kernel_rfl) (by kernel_rfl) (by kernel_rfl) (fun _ _ _ h => h) (Or.inl ⟨by rfl, ?_⟩) (⟨HL3.out.drewN 1, below_drewN HB3.out 1⟩) ?_
                      rotate_left
                      · intro wS hSw
                        go_simp
                        try with_reducible rfl
                      try simp only [List.getElem_toArray, List.getElem_cons_zero, List.getElem_cons_succ, Act.put, List.setIfInBounds_toArray, List.set_cons_zero, List.set_cons_succ]
                      refine wpAnyH_take (i := 3) (v := ?_) rfl (by kernel_rfl) (by kernel_rfl) (by kernel_rfl) (fun _ _ _ h => h) (Or.inl ⟨by rfl, ?_⟩) (⟨HL3.out.drewN 1, below_drewN HB3.out 1⟩) ?_
                      rotate_left
                      · intro wS hSw
                        go_simp
                        try with_reducible rfl
                      try simp only [List.getElem_toArray, List.getElem_cons_zero, List.getElem_cons_succ, Act.put, List.setIfInBounds_toArray, List.set_cons_zero, List.set_cons_succ]
                      refine wpAnyH_take (i := 4) (v := ?_) rfl (by kernel_rfl) (by kernel_rfl) (by kernel_rfl) (fun _ _ _ h => h) (Or.inl ⟨by rfl, ?_⟩) (⟨HL3.out.drewN 1, below_drewN HB3.out 1⟩) ?_
                      rotate_left
                      · intro wS hSw
                        go_simp
                        try with_reducible rfl
                      try simp only [List.getElem_toArray, List.getElem_cons_zero, List.getElem_cons_succ, Act.put, List.setIfInBounds_toArray, List.set_cons_zero, List.set_cons_succ]
                      refine wpAnyH_take (i := 5) (v := ?_) rfl (by kernel_rfl) (by kernel_rfl) (by kernel_rfl) (fun _ _ _ h => h) (Or.inl ⟨by rfl, ?_⟩) (⟨HL3.out.drewN 1, below_drewN HB3.out 1⟩) ?_
                      rotate_left
                      · intro wS hSw
                        go_simp
                        try with_reducible rfl
                      try simp only [List.getElem_toArray, List.getElem_cons_zero, List.getElem_cons_succ, Act.put, List.setIfInBounds_toArray, List.set_cons_zero, List.set_cons_succ]
                      refine wpAnyH_take (i := 6) (v := ?_) rfl (by kernel_rfl) (by kernel_rfl) (by kernel_rfl) (fun _ _ _ h => h) (Or.inl ⟨by rfl, ?_⟩) (⟨HL3.out.drewN 1, below_drewN HB3.out 1⟩) ?_
                      rotate_left
                      · intro wS hSw
                        go_simp
                        try with_reducible rfl
                      try simp only [List.getElem_toArray, List.getElem_cons_zero, List.getElem_cons_succ, Act.put, List.setIfInBounds_toArray, List.set_cons_zero, List.set_cons_succ]
                      refine wpAnyH_take (i := 7) (v := ?_) rfl (by kernel_rfl) (by kernel_rfl) (by kernel_rfl) (fun _ _ _ h => h) (Or.inl ⟨by rfl, ?_⟩) (⟨HL3.out.drewN 1, below_drewN HB3.out 1⟩) ?_
                      rotate_left
                      · intro wS hSw
                        go_simp
                        try with_reducible rfl
                      try simp only [List.getElem_toArray, List.getElem_cons_zero, List.getElem_cons_succ, Act.put, List.setIfInBounds_toArray, List.set_cons_zero, List.set_cons_succ]
                      refine wpAnyH_take (i := 9) (v := ?_) rfl (by kernel_rfl) (by kernel_rfl) (by kernel_rfl) (fun _ _ _ h => h) (Or.inl ⟨by rfl, ?_⟩) (⟨HL3.out.drewN 1, below_drewN HB3.out 1⟩) ?_
                      rotate_left
                      · intro wS hSw
                        go_simp
                        try with_reducible rfl
                      try simp only [List.getElem_toArray, List.getElem_cons_zero, List.getElem_cons_succ, Act.put, List.setIfInBounds_toArray, List.set_cons_zero, List.set_cons_succ]
                      refine wpAnyH_take (i := 10) (v := ?_) rfl (by kernel_rfl) (by kernel_rfl) (by kernel_rfl) (fun _ _ _ h => h) (Or.inl ⟨by rfl, ?_⟩) (⟨HL3.out.drewN 1, below_drewN HB3.out 1⟩) ?_
                      rotate_left
                      · intro wS hSw
                        go_simp
                        try with_reducible rfl
                      try simp only [List.getElem_toArray, List.getElem_cons_zero, List.getElem_cons_succ, Act.put, List.setIfInBounds_toArray, List.set_cons_zero, List.set_cons_succ]
                      refine wpAnyH_take (i := 11) (v := ?_) rfl (by kernel_rfl) (by kernel_rfl) (by kernel_rfl) (fun _ _ _ h => h) (Or.inl ⟨by rfl, ?_⟩) (⟨HL3.out.drewN 1, below_drewN HB3.out 1⟩) ?_
                      rotate_left
                      · intro wS hSw
                        go_simp
                        try with_reducible rfl
                      try simp only [List.getElem_toArray, List.getElem_cons_zero, List.getElem_cons_succ, Act.put, List.setIfInBounds_toArray, List.set_cons_zero, List.set_cons_succ]
                      refine wpAnyH_take (i := 8) (v := ?_) rfl (by kernel_rfl) (by kernel_rfl) (by kernel_rfl) (fun _ _ _ h => h) (Or.inl ⟨by rfl, ?_⟩) (⟨HL3.out.drewN 1, below_drewN HB3.out 1⟩) ?_
                      rotate_left
                      · intro wS hSw
                        have hcv := hSw.1.at0 HIA.out.1 HXA.out.1
                        have hcv2 := hSw.1.at1 HIA.out.1 HXA.out.1
                        go_simp
                        try with_reducible rfl
                      try simp only [List.getElem_toArray, List.getElem_cons_zero, List.getElem_cons_succ, Act.put, List.setIfInBounds_toArray, List.set_cons_zero, List.set_cons_succ]
                      refine wpAnyH_take (i := 12) (v := ?_) rfl (by kernel_rfl) (by kernel_rfl) (by kernel_rfl) (fun _ _ _ h => h) (Or.inl ⟨by rfl, ?_⟩) (⟨HL3.out.drewN 1, below_drewN HB3.out 1⟩) ?_
                      rotate_left
                      · intro wS hSw
                        have hcv := hSw.1.at0 HIA.out.2 HXA.out.2
                        have hcv2 := hSw.1.at1 HIA.out.2 HXA.out.2
                        go_simp
                        try with_reducible rfl
                      try simp only [List.getElem_toArray, List.getElem_cons_zero, List.getElem_cons_succ, Act.put, List.setIfInBounds_toArray, List.set_cons_zero, List.set_cons_succ]
                      refine wpAnyH_ready (rs := [13]) (by kernel_rfl) (by simp) ?_
                      refine AllReadyH.cons rfl (fun K hK => ?_) AllReadyH.nil
                      go_simp
                      refine (ordCmp xA yA _).mono ?_
                      rintro e wA ⟨rfl, hbA⟩
                      have HLA := Lib.hid ((HL3.out.drewN 1).below hbA HL3.out.lt)
                      have HBA := Lib.hid ((below_drewN HB3.out 1).trans (hbA.mono (Nat.le_trans hg (Nat.le_of_lt HL3.out.lt))))
                      clear hbA
                      refine hK.out _ _ ⟨HLA.out, HBA.out⟩ (fun _ => ?_)
                      clear hK K
                      try simp only [List.getElem_toArray, List.getElem_cons_zero, List.getElem_cons_succ, Act.put, List.setIfInBounds_toArray, List.set_cons_zero, List.set_cons_succ]
                      refine wpAnyH_take (i := 14) (v := ?_) rfl (by kernel_rfl) (by kernel_rfl) (by kernel_rfl) (fun _ _ _ h => h) (Or.inl ⟨by rfl, ?_⟩) ⟨HLA.out, HBA.out⟩ ?_
                      rotate_left
                      · intro wS hSw
                        go_simp
                        try with_reducible rfl
                      try simp only [List.getElem_toArray, List.getElem_cons_zero, List.getElem_cons_succ, Act.put, List.setIfInBounds_toArray, List.set_cons_zero, List.set_cons_succ]
                      refine wpAnyH_take (i := 15) (v := ?_) rfl (by kernel_rfl) (by kernel_rfl) (by kernel_rfl) (fun _ _ _ h => h) (Or.inl ⟨by rfl, ?_⟩) ⟨HLA.out, HBA.out⟩ ?_
                      rotate_left
                      · intro wS hSw
                        go_simp
                        try with_reducible rfl
                      try simp only [List.getElem_toArray, List.getElem_cons_zero, List.getElem_cons_succ, Act.put, List.setIfInBounds_toArray, List.set_cons_zero, List.set_cons_succ]
                      refine wpAnyH_take (i := 16) (v := ?_) rfl (by kernel_rfl) (by kernel_rfl) (by kernel_rfl) (fun _ _ _ h => h) (Or.inl ⟨by rfl, ?_⟩) ⟨HLA.out, HBA.out⟩ ?_
                      rotate_left
                      · intro wS hSw
                        go_simp
                        try with_reducible rfl
                      try simp only [List.getElem_toArray, List.getElem_cons_zero, List.getElem_cons_succ, Act.put, List.setIfInBounds_toArray, List.set_cons_zero, List.set_cons_succ]
                      refine wpAnyH_done (by kernel_rfl) ?_ _

                      try go_wp2_with fail
                      go_meet
                      exact ⟨true, rfl, fun _ => ⟨ha0, (by rw [← HAP.out]; exact HCC.out)⟩, HLA, HBA⟩
                case rest =>
                  obtain ⟨q, rfl, hq, HL4, HB4⟩ := hcut
                  clear HL3 HB3
                  cases q
                  · have hc := Lib.hid (ordPart g n c a' b' p B d1 _ HL4.out HZ1.out hg hp1 hp2 hb' hs)
                    go_upto_if 125 with (go_at_call 51; refine hc.out.mono ?_; rintro e w5 ⟨m, apd, d4, rfl, L5, P5, C5, B5⟩; have hm1 := C5.ham; have hm2 := C5.hmb; have wm1 : IntKind.i64.wrap ((m : Int) - (a' : Int)) = (m : Int) - (a' : Int) := (by rw [IntKind.wrap_i64]; omega); have wm2 : IntKind.i64.wrap ((b' : Int) - (m : Int)) = (b' : Int) - (m : Int) := (by rw [IntKind.wrap_i64]; omega))
                    have HU5 := Lib.hid (HU1.out.step P5)
                    have HZ5 : Hid (d4.size = n) := Lib.hid (P5.1.trans HZ1.out)
                    have HB5 := Lib.hid (HB4.out.trans B5)
                    have HC5 := Lib.hid C5
                    have HL5 := Lib.hid L5
                    clear hc L5 P5 C5 B5 HU1 HL4 HB4 HZ1
                    by_cases h4 : m - a' < b' - m
                    · skip
                      have h4z : (m : Int) - (a' : Int) < (b' : Int) - (m : Int) := by omega
                      have h4d : decide ((m : Int) - (a' : Int) < (b' : Int) - (m : Int)) = true := decide_eq_true h4z
                      have hih := Lib.hid (IH.out a' m l2 d4 w5 (by omega) HL5.out HZ5.out (by omega) (by omega) hl2 (HU5.out.belL HC5.out))
                      go_wp2_with (go_at_call 41; refine hih.out.mono ?_; rintro e w6 ⟨rfl, d6, P6, S6, L6, B6⟩)
                      go_roundw
                      case rel => exact ⟨m + 1, b', l2, _, _, d6, by go_num, rfl, rfl, rfl, rfl, by omega, hb', by omega, hl2, Lib.hid (P6.1.trans HZ5.out), Lib.hid (HU5.out.left ltS_swo HC5.out P6 S6), Lib.hid L6, Lib.hid (HB5.out.trans B6)⟩
                      case measure => first | (simp [Go.RowKit.intOf]; done) | (simp [Go.RowKit.intOf]; omega)
                    · skip
                      have h4z : ¬ ((m : Int) - (a' : Int) < (b' : Int) - (m : Int)) := by omega
                      have h4d : decide ((m : Int) - (a' : Int) < (b' : Int) - (m : Int)) = false := decide_eq_false h4z
                      have hih0 := IH.out (m + 1) b' l2 d4 w5 (by omega) HL5.out HZ5.out (by omega) (by omega) hl2 HC5.out.belR
                      rw [show ((m + 1 : Nat) : Int) = (m : Int) + 1 by omega] at hih0
                      have hih := Lib.hid hih0
                      clear hih0
                      go_wp2_with (go_at_call 41; refine hih.out.mono ?_; rintro e w6 ⟨rfl, d6, P6, S6, L6, B6⟩)
                      go_roundw
                      case rel => exact ⟨a', m, l2, _, _, d6, rfl, rfl, rfl, rfl, rfl, by omega, by omega, by omega, hl2, Lib.hid (P6.1.trans HZ5.out), Lib.hid (HU5.out.right ltS_swo HC5.out P6 S6), Lib.hid L6, Lib.hid (HB5.out.trans B6)⟩
                      case measure => first | (simp [Go.RowKit.intOf]; done) | (simp [Go.RowKit.intOf]; omega)
                  · skip
                    have hq2 := Lib.hid (hq rfl)
                    clear hq
                    have hc := Lib.hid (ordPartE g n c a' b' p B d1 _ HL4.out HZ1.out hg hp1 hp2 hb' hs)
                    go_wp2_with (go_at_call 50; refine hc.out.mono ?_; rintro e w5 ⟨m, d4, rfl, L5, P5, C5, B5⟩; have hm1 := C5.ham; have hm2 := C5.hmb)
                    go_roundw
                    case rel => exact ⟨m, b', l2, wb, wp, d4, rfl, rfl, rfl, rfl, rfl, by omega, hb', by omega, hl2, Lib.hid (P5.1.trans HZ1.out), Lib.hid (HU1.out.equal ltS_swo hq2.out.1 hq2.out.2 P5 C5), Lib.hid L5, Lib.hid (HB4.out.trans B5)⟩
                    case measure => first | (simp [Go.RowKit.intOf]; done) | (simp [Go.RowKit.intOf]; omega)
end Cib
