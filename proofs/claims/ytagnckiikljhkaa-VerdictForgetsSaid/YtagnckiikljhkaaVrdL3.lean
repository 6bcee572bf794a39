/- The law VerdictForgets. -/
import Derived.Test.YtagnckiikljhkaaVrdI
set_option linter.unusedVariables false
set_option linter.unusedSimpArgs false
set_option maxRecDepth 40000
namespace Cib
open Go Go.RowKit Go.Proofs
/-- What holds of the notes and of what is remembered. -/
structure GoodV (rows : List (Nat × Value)) (f : Vrd.Mem) : Prop where
  one : ∀ x ∈ rows, x.2.oneCell' = true
  mem : ∀ k s, f k = some s → ∃ x ∈ rows, x.1 = s
  bd : ∀ x ∈ rows, x.1 < 18446744073709551616
theorem GoodV.nil : GoodV [] Vrd.none_ := ⟨fun x hx => (by cases hx), fun k s h => (by cases h), fun x hx => (by cases hx)⟩
theorem GoodV.push {rows : List (Nat × Value)} {f : Vrd.Mem} (h : GoodV rows f) {stamp : Nat} {v : Value} (hs : stamp < 18446744073709551616) (hv : v.oneCell' = true) (keys : List ByteArray) : GoodV (rows ++ [(stamp, v)]) (Vrd.note f stamp keys) := by
  refine ⟨fun x hx => ?_, fun k s hk => ?_, fun x hx => ?_⟩
  · rcases List.mem_append.1 hx with h1 | h1
    · exact h.one x h1
    · rw [List.mem_singleton.1 h1]
      exact hv
  · unfold Vrd.note at hk
    by_cases hm : k ∈ keys
    · rw [if_pos hm] at hk
      injection hk with hk
      exact ⟨_, List.mem_append.2 (.inr (List.mem_singleton.2 rfl)), hk⟩
    · rw [if_neg hm] at hk
      obtain ⟨x, hx, e⟩ := h.mem k s hk
      exact ⟨x, List.mem_append.2 (.inl hx), e⟩
  · rcases List.mem_append.1 hx with h1 | h1
    · exact h.bd x h1
    · rw [List.mem_singleton.1 h1]
      exact hs
theorem GoodV.cut {rows : List (Nat × Value)} {f : Vrd.Mem} (h : GoodV rows f) {horizon q : Nat} (hl : ∀ x ∈ rows.take q, x.1 ≤ horizon) : GoodV (rows.drop q) (Vrd.above f horizon) := by
  refine ⟨fun x hx => h.one x (List.mem_of_mem_drop hx), fun k s hk => ?_, fun x hx => h.bd x (List.mem_of_mem_drop hx)⟩
  obtain ⟨h1, h2⟩ := Vrd.above_iff.1 hk
  obtain ⟨x, hx, rfl⟩ := h.mem k s h1
  rw [← List.take_append_drop q rows] at hx
  rcases List.mem_append.1 hx with h3 | h3
  · have := hl x h3
    omega
  · exact ⟨x, h3, rfl⟩
theorem Vd.keep {w w' : World} {B g last N n c b : Nat} {f : Vrd.Mem} {rows : List (Nat × Value)} {A : Option Addr} (h : Vd w B g rows last N f A n c b) (hk : ∀ k, B ≤ k → k < w.heap.size → w'.heap[k]? = w.heap[k]?) : Vd w' B g rows last N f A n c b := by
  refine ⟨(hk g h.hg h.blk.lt).trans h.blk, ?_, h.map.heap (hk b h.hb h.map.lt), h.hn, h.hg, h.hb⟩
  have ho := h.own
  refine ⟨ho.1, ?_⟩
  rcases ho.2 with h0 | ⟨g', cap, cur, hv, h1, h2, h3⟩
  · exact .inl h0
  · exact .inr ⟨g', cap, cur, hv, h1, (hk g' h1 (Array.getElem?_eq_some_iff.1 h2).1).trans h2, h3⟩
theorem KeyS.more {w : World} {B B' : Nat} {A : Option Addr} {keys : List ByteArray} (h : KeyS w B A keys) (hB : B ≤ B') : KeyS w B' A keys := ⟨h.rd, fun hn ad e => (h.at_ hn ad e).imp (fun h => Nat.lt_of_lt_of_le h hB) id⟩
/-- What the rounds of the law leave. -/
structure FgI (w : World) (g b k : Nat) (wr : World) : Prop where
  vd : ∃ (rows : List (Nat × Value)) (last N : Nat) (f : Vrd.Mem) (A : Option Addr) (n c : Nat), Vd wr w.heap.size g rows last N f A n c b ∧ GoodV rows f ∧ n ≤ k ∧ N ≤ 20 * k
  below : Below w.heap.size w wr
theorem late_none {rows : List (Nat × Value)} {f : Vrd.Mem} (h : GoodV rows f) (keys : List ByteArray) : keys.any (Vrd.lateK f 18446744073709551615) = false := by
  rw [List.any_eq_false]
  intro k _
  unfold Vrd.lateK
  cases hf : f k with
  | none => simp
  | some s =>
    obtain ⟨x, hx, rfl⟩ := h.mem k s hf
    have := h.bd x hx
    simp
    omega
set_option maxHeartbeats 8000000 in
theorem lawForgets (A : Option Addr) (cap : Nat) (l : List ActV) (horizon later : Nat) (x : KeyR) (w : World) (h : Rd w w.heap.size A (l.map actRow).flatten) (hl : l.length ≤ maxLen) (hok : ∀ x ∈ l, x.ok w w.heap.size) (hh : horizon < 18446744073709551616) (hlt : later < 18446744073709551616) (hx : x.ok w w.heap.size) :
    Calls Try.prog 4 #[.slice A l.length cap, .int .u64 (horizon : Int), .int .u64 (later : Int), x.v] w fun e w' => e = .returned (.bool true) ∧ Below w.heap.size w w' := by
  obtain ⟨Ax, cx, keys⟩ := x
  unfold KeyR.v
  simp only
  obtain ⟨m, HM⟩ : ∃ m, Hid (keys.length = m) := ⟨_, rfl⟩
  rw [HM.out]
  have hmm : m ≤ maxLen := by rw [← HM.out]; exact hx.len
  unfold maxLen at hmm
  have HJ := Lib.hid (fun W => judges W)
  have HFEW := Lib.hid (lawFew h rfl hl hok cap)
  have HX := Lib.hid hx
  have HOK := Lib.hid hok
  have HRD := Lib.hid h
  have HN := Lib.hid (vdNew w)
  have hlm := hl
  unfold maxLen at hlm
  clear h hok hx
  obtain ⟨q, HQ⟩ : ∃ q, Hid (fewB l = q) := ⟨_, rfl⟩
  rw [HQ.out] at HFEW
  go_enter Try.func4, Try.ntmps4
  go_wp2_with fail
  refine HFEW.out.mono ?_
  rintro e wz ⟨rfl, hwz⟩
  subst wz
  clear HFEW
  cases q with
  | false =>
    go_wp2_with fail
    refine (HJ.out _).mono ?_
    rintro e w5 ⟨rfl, hb5⟩
    go_wp2
    go_ret
    exact ⟨rfl, hb5⟩
  | true =>
    obtain ⟨hl60, hk20⟩ := fewB_of HQ.out
    have HK20 := Lib.hid hk20
    clear hk20
    by_cases hm20 : 20 < m
    · go_wp2_with fail
      refine (HJ.out _).mono ?_
      rintro e w5 ⟨rfl, hb5⟩
      go_wp2
      go_ret
      exact ⟨rfl, hb5⟩
    · have hq20 : decide ((20 : Int) < (m : Int)) = false := by simp; omega
      go_wp2_with fail
      refine HN.out.mono ?_
      rintro e w1 ⟨g, b, rfl, hV1, hb1⟩
      have H0 : Hid (FgI w g b 0 w1) := ⟨⟨[], 0, 0, Vrd.none_, none, 0, 0, hV1, GoodV.nil, Nat.le_refl _, Nat.le_refl _⟩, hb1⟩
      clear HN hV1 hb1
      go_wp2
      go_loopw [10] (fun i wr => ∃ k : Nat, i = .int .i64 k ∧ k ≤ l.length ∧ Hid (FgI w g b k wr)) (fun i _ => l.length - (intOf i).toNat)
      case atStart => exact ⟨0, rfl, Nat.zero_le _, H0⟩
      case round =>
        clear H0
        rename World => wx
        obtain ⟨k, rfl, hk, hI⟩ := hrel
        obtain ⟨rows, last, N, f, A4, n, c4, hV, hG, hnk, hNk⟩ := hI.out.vd
        have hbel := hI.out.below
        by_cases hlk : k < l.length
        · obtain ⟨bb, off, rfl, hbb, _, hc1, hc2⟩ := act_at (HRD.out.below hbel) hlk
          have hxo := HOK.out _ (List.getElem_mem hlk)
          have hx20 := HK20.out _ (List.getElem_mem hlk)
          generalize l[k] = y at *
          obtain ⟨kind, stamp, ⟨Ay, cy, ky⟩⟩ := y
          obtain ⟨hst, hxy⟩ := hxo
          unfold KeyR.v at hc2
          simp only at hc1 hc2 hst hxy hx20
          obtain ⟨my, HMY⟩ : ∃ m, Hid (ky.length = m) := ⟨_, rfl⟩
          rw [HMY.out] at hc2 hx20
          have hz := hbel.size
          have hkS := (hxy.below hbel).keyS hz
          have hV1 : Vd (wx.drewN 1) w.heap.size g rows last N f A4 n c4 b := hV.below (below_drewN (Below.refl _ _) 1)
          have hkS1 : KeyS (wx.drewN 1) w.heap.size Ay ky := hkS.below (below_drewN (Below.refl _ _) 1)
          have hbd := below_drewN hbel 1
          by_cases hlast : last < stamp
          · have HNT := Lib.hid (vdNote hV1 stamp hlast hst hkS1 hxy.size HMY.out (by omega) (by omega) (by omega) cy)
            unfold Noted at HNT
            have HG := Lib.hid hG
            have HBD := Lib.hid hbd
            clear hI hV hG hbel hkS hV1 hkS1 hbd hxy
            go_upto_region 7 with fail
            refine wp_region_held_drew (S := (fun _ => True)) (by kernel_rfl) trivial (fun _ => ?_)
            refine wpAnyH_take (i := 0) (v := ?_) rfl (by kernel_rfl) (by kernel_rfl) (by kernel_rfl) (fun _ _ _ h => h) (Or.inl ⟨by rfl, ?_⟩) trivial ?_
            rotate_left
            · intro wS hSw
              go_simp
              try with_reducible rfl
            try simp only [List.getElem_toArray, List.getElem_cons_zero, List.getElem_cons_succ, Act.put, List.setIfInBounds_toArray, List.set_cons_zero, List.set_cons_succ]
            refine wpAnyH_take (i := 1) (v := ?_) rfl (by kernel_rfl) (by kernel_rfl) (by kernel_rfl) (fun _ _ _ h => h) (Or.inl ⟨by rfl, ?_⟩) trivial ?_
            rotate_left
            · intro wS hSw
              go_simp
              try with_reducible rfl
            try simp only [List.getElem_toArray, List.getElem_cons_zero, List.getElem_cons_succ, Act.put, List.setIfInBounds_toArray, List.set_cons_zero, List.set_cons_succ]
            refine wpAnyH_take (i := 2) (v := ?_) rfl (by kernel_rfl) (by kernel_rfl) (by kernel_rfl) (fun _ _ _ h => h) (Or.inl ⟨by rfl, ?_⟩) trivial ?_
            rotate_left
            · intro wS hSw
              go_simp
              try with_reducible rfl
            try simp only [List.getElem_toArray, List.getElem_cons_zero, List.getElem_cons_succ, Act.put, List.setIfInBounds_toArray, List.set_cons_zero, List.set_cons_succ]
            refine wpAnyH_take (i := 3) (v := ?_) rfl (by kernel_rfl) (by kernel_rfl) (by kernel_rfl) (fun _ _ _ h => h) (Or.inl ⟨by rfl, ?_⟩) trivial ?_
            rotate_left
            · intro wS hSw
              go_simp
              try with_reducible rfl
            try simp only [List.getElem_toArray, List.getElem_cons_zero, List.getElem_cons_succ, Act.put, List.setIfInBounds_toArray, List.set_cons_zero, List.set_cons_succ]
            refine wpAnyH_take (i := 4) (v := ?_) rfl (by kernel_rfl) (by kernel_rfl) (by kernel_rfl) (fun _ _ _ h => h) (Or.inl ⟨by rfl, ?_⟩) trivial ?_
            rotate_left
            · intro wS hSw
              go_simp
              try with_reducible rfl
            try simp only [List.getElem_toArray, List.getElem_cons_zero, List.getElem_cons_succ, Act.put, List.setIfInBounds_toArray, List.set_cons_zero, List.set_cons_succ]
            refine wpAnyH_take (i := 6) (v := ?_) rfl (by kernel_rfl) (by kernel_rfl) (by kernel_rfl) (fun _ _ _ h => h) (Or.inl ⟨by rfl, ?_⟩) trivial ?_
            rotate_left
            · intro wS hSw
              go_simp
              try with_reducible rfl
            try simp only [List.getElem_toArray, List.getElem_cons_zero, List.getElem_cons_succ, Act.put, List.setIfInBounds_toArray, List.set_cons_zero, List.set_cons_succ]
            refine wpAnyH_take (i := 7) (v := ?_) rfl (by kernel_rfl) (by kernel_rfl) (by kernel_rfl) (fun _ _ _ h => h) (Or.inl ⟨by rfl, ?_⟩) trivial ?_
            rotate_left
            · intro wS hSw
              go_simp
              try with_reducible rfl
            try simp only [List.getElem_toArray, List.getElem_cons_zero, List.getElem_cons_succ, Act.put, List.setIfInBounds_toArray, List.set_cons_zero, List.set_cons_succ]
            refine wpAnyH_take (i := 8) (v := ?_) rfl (by kernel_rfl) (by kernel_rfl) (by kernel_rfl) (fun _ _ _ h => h) (Or.inl ⟨by rfl, ?_⟩) trivial ?_
            rotate_left
            · intro wS hSw
              go_simp
              try with_reducible rfl
            try simp only [List.getElem_toArray, List.getElem_cons_zero, List.getElem_cons_succ, Act.put, List.setIfInBounds_toArray, List.set_cons_zero, List.set_cons_succ]
            refine wpAnyH_take (i := 9) (v := ?_) rfl (by kernel_rfl) (by kernel_rfl) (by kernel_rfl) (fun _ _ _ h => h) (Or.inl ⟨by rfl, ?_⟩) trivial ?_
            rotate_left
            · intro wS hSw
              go_simp
              try with_reducible rfl
            try simp only [List.getElem_toArray, List.getElem_cons_zero, List.getElem_cons_succ, Act.put, List.setIfInBounds_toArray, List.set_cons_zero, List.set_cons_succ]
            refine wpAnyH_ready (rs := [5, 10]) (by kernel_rfl) (by simp) ?_
            refine AllReadyH.cons rfl (fun K hK => ?_) (AllReadyH.cons rfl (fun K hK => ?_) AllReadyH.nil)
            · go_simp
              refine hK.out _ _ trivial (fun _ => ?_)
              clear hK K
              try simp only [List.getElem_toArray, List.getElem_cons_zero, List.getElem_cons_succ, Act.put, List.setIfInBounds_toArray, List.set_cons_zero, List.set_cons_succ]
              refine wpAnyH_ready (rs := [10]) (by kernel_rfl) (by simp) ?_
              refine AllReadyH.cons rfl (fun K hK => ?_) AllReadyH.nil
              go_simp
              refine hK.out _ _ trivial (fun _ => ?_)
              clear hK K
              try simp only [List.getElem_toArray, List.getElem_cons_zero, List.getElem_cons_succ, Act.put, List.setIfInBounds_toArray, List.set_cons_zero, List.set_cons_succ]
              refine wpAnyH_ready (rs := [11]) (by kernel_rfl) (by simp) ?_
              refine AllReadyH.cons rfl (fun K hK => ?_) AllReadyH.nil
              go_simp
              refine HNT.out.mono ?_
              rintro e w5 ⟨rfl, ⟨v, A5, c5, hv1, hV5⟩, hch⟩
              refine hK.out _ _ trivial (fun _ => ?_)
              clear hK K
              try simp only [List.getElem_toArray, List.getElem_cons_zero, List.getElem_cons_succ, Act.put, List.setIfInBounds_toArray, List.set_cons_zero, List.set_cons_succ]
              refine wpAnyH_done (by kernel_rfl) ?_ _
              have HF : Hid (FgI w g b (k + 1) w5) := ⟨⟨_, _, _, _, A5, n + 1, c5, hV5, HG.out.push hst hv1 ky, by omega, by rw [HMY.out]; omega⟩, HBD.out.trans hch.below⟩
              clear hV5 hch
              go_wp2
              exact ⟨⟨k + 1, by go_num, hlk, HF⟩, by simp [intOf]; omega⟩
            · go_simp
              refine hK.out _ _ trivial (fun _ => ?_)
              clear hK K
              try simp only [List.getElem_toArray, List.getElem_cons_zero, List.getElem_cons_succ, Act.put, List.setIfInBounds_toArray, List.set_cons_zero, List.set_cons_succ]
              refine wpAnyH_ready (rs := [5]) (by kernel_rfl) (by simp) ?_
              refine AllReadyH.cons rfl (fun K hK => ?_) AllReadyH.nil
              go_simp
              refine hK.out _ _ trivial (fun _ => ?_)
              clear hK K
              try simp only [List.getElem_toArray, List.getElem_cons_zero, List.getElem_cons_succ, Act.put, List.setIfInBounds_toArray, List.set_cons_zero, List.set_cons_succ]
              refine wpAnyH_ready (rs := [11]) (by kernel_rfl) (by simp) ?_
              refine AllReadyH.cons rfl (fun K hK => ?_) AllReadyH.nil
              go_simp
              refine HNT.out.mono ?_
              rintro e w5 ⟨rfl, ⟨v, A5, c5, hv1, hV5⟩, hch⟩
              refine hK.out _ _ trivial (fun _ => ?_)
              clear hK K
              try simp only [List.getElem_toArray, List.getElem_cons_zero, List.getElem_cons_succ, Act.put, List.setIfInBounds_toArray, List.set_cons_zero, List.set_cons_succ]
              refine wpAnyH_done (by kernel_rfl) ?_ _
              have HF : Hid (FgI w g b (k + 1) w5) := ⟨⟨_, _, _, _, A5, n + 1, c5, hV5, HG.out.push hst hv1 ky, by omega, by rw [HMY.out]; omega⟩, HBD.out.trans hch.below⟩
              clear hV5 hch
              go_wp2
              exact ⟨⟨k + 1, by go_num, hlk, HF⟩, by simp [intOf]; omega⟩
          · have HNT := Lib.hid (vdNote0 hV1 stamp (by omega) (.slice Ay my cy))
            have HF : Hid (FgI w g b (k + 1) (wx.drewN 1)) := ⟨⟨_, _, _, _, A4, n, c4, hV1, hG, by omega, by omega⟩, hbd⟩
            clear hI hV hG hbel hkS hV1 hkS1 hbd hxy
            go_upto_region 7 with fail
            refine wp_region_held_drew (S := (fun _ => True)) (by kernel_rfl) trivial (fun _ => ?_)
            refine wpAnyH_take (i := 0) (v := ?_) rfl (by kernel_rfl) (by kernel_rfl) (by kernel_rfl) (fun _ _ _ h => h) (Or.inl ⟨by rfl, ?_⟩) trivial ?_
            rotate_left
            · intro wS hSw
              go_simp
              try with_reducible rfl
            try simp only [List.getElem_toArray, List.getElem_cons_zero, List.getElem_cons_succ, Act.put, List.setIfInBounds_toArray, List.set_cons_zero, List.set_cons_succ]
            refine wpAnyH_take (i := 1) (v := ?_) rfl (by kernel_rfl) (by kernel_rfl) (by kernel_rfl) (fun _ _ _ h => h) (Or.inl ⟨by rfl, ?_⟩) trivial ?_
            rotate_left
            · intro wS hSw
              go_simp
              try with_reducible rfl
            try simp only [List.getElem_toArray, List.getElem_cons_zero, List.getElem_cons_succ, Act.put, List.setIfInBounds_toArray, List.set_cons_zero, List.set_cons_succ]
            refine wpAnyH_take (i := 2) (v := ?_) rfl (by kernel_rfl) (by kernel_rfl) (by kernel_rfl) (fun _ _ _ h => h) (Or.inl ⟨by rfl, ?_⟩) trivial ?_
            rotate_left
            · intro wS hSw
              go_simp
              try with_reducible rfl
            try simp only [List.getElem_toArray, List.getElem_cons_zero, List.getElem_cons_succ, Act.put, List.setIfInBounds_toArray, List.set_cons_zero, List.set_cons_succ]
            refine wpAnyH_take (i := 3) (v := ?_) rfl (by kernel_rfl) (by kernel_rfl) (by kernel_rfl) (fun _ _ _ h => h) (Or.inl ⟨by rfl, ?_⟩) trivial ?_
            rotate_left
            · intro wS hSw
              go_simp
              try with_reducible rfl
            try simp only [List.getElem_toArray, List.getElem_cons_zero, List.getElem_cons_succ, Act.put, List.setIfInBounds_toArray, List.set_cons_zero, List.set_cons_succ]
            refine wpAnyH_take (i := 4) (v := ?_) rfl (by kernel_rfl) (by kernel_rfl) (by kernel_rfl) (fun _ _ _ h => h) (Or.inl ⟨by rfl, ?_⟩) trivial ?_
            rotate_left
            · intro wS hSw
              go_simp
              try with_reducible rfl
            try simp only [List.getElem_toArray, List.getElem_cons_zero, List.getElem_cons_succ, Act.put, List.setIfInBounds_toArray, List.set_cons_zero, List.set_cons_succ]
            refine wpAnyH_take (i := 6) (v := ?_) rfl (by kernel_rfl) (by kernel_rfl) (by kernel_rfl) (fun _ _ _ h => h) (Or.inl ⟨by rfl, ?_⟩) trivial ?_
            rotate_left
            · intro wS hSw
              go_simp
              try with_reducible rfl
            try simp only [List.getElem_toArray, List.getElem_cons_zero, List.getElem_cons_succ, Act.put, List.setIfInBounds_toArray, List.set_cons_zero, List.set_cons_succ]
            refine wpAnyH_take (i := 7) (v := ?_) rfl (by kernel_rfl) (by kernel_rfl) (by kernel_rfl) (fun _ _ _ h => h) (Or.inl ⟨by rfl, ?_⟩) trivial ?_
            rotate_left
            · intro wS hSw
              go_simp
              try with_reducible rfl
            try simp only [List.getElem_toArray, List.getElem_cons_zero, List.getElem_cons_succ, Act.put, List.setIfInBounds_toArray, List.set_cons_zero, List.set_cons_succ]
            refine wpAnyH_take (i := 8) (v := ?_) rfl (by kernel_rfl) (by kernel_rfl) (by kernel_rfl) (fun _ _ _ h => h) (Or.inl ⟨by rfl, ?_⟩) trivial ?_
            rotate_left
            · intro wS hSw
              go_simp
              try with_reducible rfl
            try simp only [List.getElem_toArray, List.getElem_cons_zero, List.getElem_cons_succ, Act.put, List.setIfInBounds_toArray, List.set_cons_zero, List.set_cons_succ]
            refine wpAnyH_take (i := 9) (v := ?_) rfl (by kernel_rfl) (by kernel_rfl) (by kernel_rfl) (fun _ _ _ h => h) (Or.inl ⟨by rfl, ?_⟩) trivial ?_
            rotate_left
            · intro wS hSw
              go_simp
              try with_reducible rfl
            try simp only [List.getElem_toArray, List.getElem_cons_zero, List.getElem_cons_succ, Act.put, List.setIfInBounds_toArray, List.set_cons_zero, List.set_cons_succ]
            refine wpAnyH_ready (rs := [5, 10]) (by kernel_rfl) (by simp) ?_
            refine AllReadyH.cons rfl (fun K hK => ?_) (AllReadyH.cons rfl (fun K hK => ?_) AllReadyH.nil)
            · go_simp
              refine hK.out _ _ trivial (fun _ => ?_)
              clear hK K
              try simp only [List.getElem_toArray, List.getElem_cons_zero, List.getElem_cons_succ, Act.put, List.setIfInBounds_toArray, List.set_cons_zero, List.set_cons_succ]
              refine wpAnyH_ready (rs := [10]) (by kernel_rfl) (by simp) ?_
              refine AllReadyH.cons rfl (fun K hK => ?_) AllReadyH.nil
              go_simp
              refine hK.out _ _ trivial (fun _ => ?_)
              clear hK K
              try simp only [List.getElem_toArray, List.getElem_cons_zero, List.getElem_cons_succ, Act.put, List.setIfInBounds_toArray, List.set_cons_zero, List.set_cons_succ]
              refine wpAnyH_ready (rs := [11]) (by kernel_rfl) (by simp) ?_
              refine AllReadyH.cons rfl (fun K hK => ?_) AllReadyH.nil
              go_simp
              refine HNT.out.mono ?_
              rintro e w5 ⟨rfl, hw5⟩
              subst w5
              refine hK.out _ _ trivial (fun _ => ?_)
              clear hK K
              try simp only [List.getElem_toArray, List.getElem_cons_zero, List.getElem_cons_succ, Act.put, List.setIfInBounds_toArray, List.set_cons_zero, List.set_cons_succ]
              refine wpAnyH_done (by kernel_rfl) ?_ _
              go_wp2
              exact ⟨⟨k + 1, by go_num, hlk, HF⟩, by simp [intOf]; omega⟩
            · go_simp
              refine hK.out _ _ trivial (fun _ => ?_)
              clear hK K
              try simp only [List.getElem_toArray, List.getElem_cons_zero, List.getElem_cons_succ, Act.put, List.setIfInBounds_toArray, List.set_cons_zero, List.set_cons_succ]
              refine wpAnyH_ready (rs := [5]) (by kernel_rfl) (by simp) ?_
              refine AllReadyH.cons rfl (fun K hK => ?_) AllReadyH.nil
              go_simp
              refine hK.out _ _ trivial (fun _ => ?_)
              clear hK K
              try simp only [List.getElem_toArray, List.getElem_cons_zero, List.getElem_cons_succ, Act.put, List.setIfInBounds_toArray, List.set_cons_zero, List.set_cons_succ]
              refine wpAnyH_ready (rs := [11]) (by kernel_rfl) (by simp) ?_
              refine AllReadyH.cons rfl (fun K hK => ?_) AllReadyH.nil
              go_simp
              refine HNT.out.mono ?_
              rintro e w5 ⟨rfl, hw5⟩
              subst w5
              refine hK.out _ _ trivial (fun _ => ?_)
              clear hK K
              try simp only [List.getElem_toArray, List.getElem_cons_zero, List.getElem_cons_succ, Act.put, List.setIfInBounds_toArray, List.set_cons_zero, List.set_cons_succ]
              refine wpAnyH_done (by kernel_rfl) ?_ _
              go_wp2
              exact ⟨⟨k + 1, by go_num, hlk, HF⟩, by simp [intOf]; omega⟩
        · have hkl : k = l.length := by omega
          have HV := Lib.hid hV
          have HG := Lib.hid hG
          have HB := Lib.hid hbel
          have hn6 : n ≤ 65536 := by omega
          have hN6 : N ≤ 65536 := by omega
          have HCP := Lib.hid (vdCopy hV hG.one hn6 hN6)
          clear hI hV hG hbel
          go_wp2_with fail
          refine HCP.out.mono ?_
          rintro e w2 ⟨g2, A2, c2, b2, rfl, hVc, hb2⟩
          have HVC := Lib.hid hVc
          have hV2 := HV.out.below hb2
          have HB2 := Lib.hid (HB.out.via hb2)
          have HWX := Lib.hid hb2.size
          have HLE := Lib.hid (vdLen hV2)
          have HFG := Lib.hid (vdForget hV2 horizon hh HG.out.one HG.out.mem hn6 hN6)
          have HGL := Lib.hid HV.out.blk.lt
          have HBL := Lib.hid HV.out.map.lt
          clear HCP hVc hV2 hb2 HV HB
          go_wp2_with fail
          refine HLE.out.mono ?_
          rintro e wz ⟨rfl, hwz⟩
          subst wz
          clear HLE
          go_wp2_with fail
          refine HFG.out.mono ?_
          rintro e w3 ⟨q, rfl, hF⟩
          obtain ⟨A3, c3, hV3⟩ := hF.vd
          have hVc3 : Vd w3 wx.heap.size g2 rows last N f A2 n c2 b2 := HVC.out.keep fun k h1 h2 => hF.keep k h2 (by have := HGL.out; omega) (by have := HBL.out; omega)
          have HB3 := Lib.hid (HB2.out.trans hF.below)
          have HG3 := Lib.hid (HG.out.cut hF.low)
          have hqn := hF.le
          have HHI := Lib.hid hF.high
          have HV3 := Lib.hid hV3
          have HVC3 := Lib.hid hVc3
          have HWB : Hid (w.heap.size ≤ wx.heap.size) := by
            have h1 := HVC.out.hg
            exact (show _ ≤ _ from Nat.le_trans (Nat.le_of_lt (Nat.lt_of_le_of_lt HV3.out.hg HGL.out)) (Nat.le_refl _))
          have hz3 := HB3.out.size
          clear hF hV3 hVc3 HFG HVC HB2
          go_upto_region 11 with fail
          go_cut [14] (fun v wy => ∃ s : Nat, v = .int .u64 s ∧ Hid (horizon ≤ s) ∧ wy = w3)
          case first =>
            by_cases hhl : horizon ≤ later
            · go_wp2
              all_goals
                go_meet
                first
                  | exact ⟨later, rfl, hhl, rfl⟩
                  | exact ⟨horizon, rfl, Nat.le_refl horizon, rfl⟩
            · go_wp2
              all_goals
                go_meet
                first
                  | exact ⟨horizon, rfl, Nat.le_refl horizon, rfl⟩
                  | exact ⟨later, rfl, (show _ ≤ _ by omega), rfl⟩
          case rest =>
            obtain ⟨start, rfl, hst, rfl⟩ := hcut
            have hkx := (HX.out.below HB3.out).keyS hz3
            have hce : Vrd.ask ltS (Vrd.above f horizon) start keys = Vrd.ask ltS f start keys := Vrd.ask_congr (fun k s hs => by
              rw [Vrd.above_iff]
              exact ⟨fun h => h.1, fun h => ⟨h, Nat.lt_of_le_of_lt hst.out hs⟩⟩) keys
            have HA1 := Lib.hid (vdAsk HV3.out start hkx HX.out.size HM.out (by unfold maxLen; omega) cx)
            have HA2 := Lib.hid (vdAsk HVC3.out start (hkx.more HWB.out) HX.out.size HM.out (by unfold maxLen; omega) cx)
            have HA3 := Lib.hid (vdAsk HV3.out 18446744073709551615 hkx HX.out.size HM.out (by unfold maxLen; omega) cx)
            rw [hce] at HA1
            obtain ⟨R, HR⟩ : ∃ R, Hid (Vrd.ask ltS f start keys = R) := ⟨_, rfl⟩
            rw [HR.out] at HA1 HA2
            obtain ⟨r1, r2, r3⟩ := R
            obtain ⟨T, HT⟩ : ∃ T, Hid (Vrd.ask ltS (Vrd.above f horizon) 18446744073709551615 keys = T) := ⟨_, rfl⟩
            have ht3 : T.2.2 = false := by rw [← HT.out, Vrd.ask_late]; exact late_none HG3.out keys
            rw [HT.out] at HA3
            obtain ⟨t1, t2, t3⟩ := T
            simp only at ht3 HA1 HA2 HA3
            subst ht3
            have hnq : n - q ≤ 65536 := by omega
            have HFG := Lib.hid (vdForget HV3.out horizon hh HG3.out.one HG3.out.mem hnq hN6)
            have HRL := Lib.hid HVC3.out.hn
            clear hkx hce HR HT
            go_wp2_with fail
            refine HA1.out.mono ?_
            rintro e wz ⟨rfl, hwz⟩
            subst wz
            go_wp2_with fail
            refine HA2.out.mono ?_
            rintro e wz ⟨rfl, hwz⟩
            subst wz
            go_wp2_with fail
            refine HA3.out.mono ?_
            rintro e wz ⟨rfl, hwz⟩
            subst wz
            clear HA1 HA2 HA3
            go_wp2_with fail
            refine HFG.out.mono ?_
            rintro e w4 ⟨q2, rfl, hF⟩
            have hq0 : q2 = 0 := by
              rcases Nat.eq_zero_or_pos q2 with h0 | h0
              · exact h0
              · exfalso
                have hle := hF.le
                have hqr : q < rows.length := by rw [HRL.out]; omega
                have h1 := HHI.out hqr
                have h2 := hF.low rows[q] (by
                  have h3 : ((rows.drop q).take q2)[0]'(by simp; omega) = rows[q] := by simp
                  rw [← h3]
                  exact List.getElem_mem _)
                omega
            subst hq0
            obtain ⟨A5, c5, hV5⟩ := hF.vd
            rw [Nat.sub_zero] at hV5
            have hVc5 : Vd w4 wx.heap.size g2 rows last N f A2 n c2 b2 := HVC3.out.keep fun k h1 h2 => hF.keep k h2 (by have := HGL.out; omega) (by have := HBL.out; omega)
            have HB5 := Lib.hid (HB3.out.trans hF.below)
            obtain ⟨m2, hm2⟩ : ∃ m2, n - q = m2 := ⟨_, rfl⟩
            rw [hm2] at hV5
            have hsum : (q : Int) + (m2 : Int) = (n : Int) := by omega
            have HL1 := Lib.hid (vdLen hV5)
            have HL2 := Lib.hid (vdLen hVc5)
            have HS1 := Lib.hid (vdLast hV5)
            have HS2 := Lib.hid (vdLast hVc5)
            have hn60 : n ≤ 60 := by omega
            have hm60 : m2 ≤ 60 := by omega
            have hq60 : q ≤ 60 := by omega
            clear hF hV5 hVc5 hm2 HFG HV3 HVC3
            go_wp2_with (first | (go_at_call 11; refine HL1.out.mono ?_; rintro e wy ⟨rfl, rfl⟩) | (go_at_call 11; refine HL2.out.mono ?_; rintro e wy ⟨rfl, rfl⟩) | (go_at_call 15; refine HS1.out.mono ?_; rintro e wy ⟨rfl, rfl⟩) | (go_at_call 15; refine HS2.out.mono ?_; rintro e wy ⟨rfl, rfl⟩) | (go_at_call 6; refine (HJ.out _).mono ?_; rintro e wy ⟨rfl, hby⟩))
            go_ret
            exact ⟨rfl, HB5.out.via hby⟩
end Cib
