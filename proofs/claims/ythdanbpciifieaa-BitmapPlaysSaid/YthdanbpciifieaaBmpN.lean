/- The document's Set. -/
import Derived.Test.YthdanbpciifieaaBmpM
set_option linter.unusedVariables false
set_option linter.unusedSimpArgs false
set_option maxRecDepth 20000
namespace Bmp
theorem trues_has (bs : List Bool) (i : Int) : decide (∃ x ∈ trues bs 0, (x : Int) = i) = has bs i := by
  by_cases h0 : 0 ≤ i
  · obtain ⟨k, rfl⟩ : ∃ k : Nat, i = (k : Int) := ⟨i.toNat, by omega⟩
    have e : (∃ x ∈ trues bs 0, (x : Int) = (k : Int)) ↔ bs.getD k false = true := by
      constructor
      · rintro ⟨x, hx, e⟩
        obtain rfl : x = k := by omega
        exact mem_trues.1 hx
      · intro h
        exact ⟨k, mem_trues.2 h, rfl⟩
    rw [show decide (∃ x ∈ trues bs 0, (x : Int) = (k : Int)) = decide (bs.getD k false = true) from decide_eq_decide.2 e]
    unfold has
    rw [Int.toNat_natCast]
    by_cases hk : k < bs.length
    · rw [decide_eq_true (show 0 ≤ (k : Int) ∧ (k : Int) < (bs.length : Int) from ⟨by omega, by omega⟩), Bool.true_and]
      simp
    · rw [List.getD, List.getElem?_eq_none (by omega)]
      simp
  · rw [has_out (by omega), decide_eq_false]
    rintro ⟨x, _, e⟩
    omega
end Bmp
namespace Cib
open Go Go.RowKit Go.Proofs
variable {w w' : World} {base g n c : Nat} {bs : List Bool} {A : Option Addr}
theorem own_far {B : Nat} {e : TypeId} {v : Value} {xs : List Value} (h : w.ownsRow B e 1 v n xs) (hk : ∀ k, B ≤ k → w'.heap[k]? = w.heap[k]?) : w'.ownsRow B e 1 v n xs := by
  refine ⟨h.1, ?_⟩
  rcases h.2 with h0 | ⟨g, cap, cur, hv, h1, h2, h3⟩
  · exact .inl h0
  · exact .inr ⟨g, cap, cur, hv, h1, (hk g h1).trans h2, h3⟩
structure StI (L F : List Nat) (i : Nat) (w : World) (acc : List Nat) (j m : Nat) (p : Bool) (A : Option Addr) (c : Nat) (wr : World) : Prop where
  fin : acc ++ Bmp.putIn i (L.drop j) p = F
  len : acc.length = m
  own : wr.ownsRow w.heap.size 3 1 (.slice A m c) m (acc.map iv)
  below : Below w.heap.size w wr
variable {L F acc : List Nat} {i j m : Nat} {p : Bool} {wr w1 : World}
theorem StI.fin' (h : StI L F i w acc j m p A c wr) (hj : j < L.length) : acc ++ ((if p = false ∧ i < L[j] then [i] else []) ++ ((if L[j] ≠ i then [L[j]] else []) ++ Bmp.putIn i (L.drop (j + 1)) (p || decide (i < L[j])))) = F := by
  have := h.fin
  rw [List.drop_eq_getElem_cons hj, Bmp.putIn] at this
  exact this
/-- Nothing is put: the place itself. -/
theorem StI.same (h : StI L F i w acc j m p A c wr) (hj : j < L.length) (e : L[j] = i) : StI L F i w acc (j + 1) m p A c wr := by
  have := h.fin' hj
  rw [if_neg (by omega), if_neg (by simpa using e), decide_eq_false (by omega)] at this
  simp only [List.nil_append, Bool.or_false] at this
  exact ⟨this, h.len, h.own, h.below⟩
/-- One is put: another place. -/
theorem StI.push (h : StI L F i w acc j m p A c wr) (hj : j < L.length) (e : L[j] ≠ i) (hp : ¬ (p = false ∧ i < L[j])) {A1 : Option Addr} {c1 : Nat}
    (ho : w1.ownsRow w.heap.size 3 1 (.slice A1 (m + 1) c1) (m + 1) (acc.map iv ++ [iv L[j]])) (hb : Below w.heap.size (wr.alloc (.cells #[iv L[j]] 3)) w1) :
    StI L F i w (acc ++ [L[j]]) (j + 1) (m + 1) p A1 c1 w1 := by
  have := h.fin' hj
  rw [if_neg hp, if_pos e] at this
  have hpp : (p || decide (i < L[j])) = p := by
    cases p
    · have : ¬ i < L[j] := fun h => hp ⟨rfl, h⟩
      simp [this]
    · rfl
  rw [hpp] at this
  exact ⟨by rw [List.append_assoc]; exact this, by rw [List.length_append, h.len]; rfl, by rw [List.map_append]; exact ho, (h.below.alloc h.below.size _).trans hb⟩
/-- The new place ahead of another one. -/
theorem StI.two {w2 : World} (h : StI L F i w acc j m false A c wr) (hj : j < L.length) (e : i < L[j]) {A1 A2 : Option Addr} {c1 c2 : Nat}
    (hb : Below w.heap.size (wr.alloc (.cells #[iv i] 3)) w1)
    (ho : w2.ownsRow w.heap.size 3 1 (.slice A2 (m + 1 + 1) c2) (m + 1 + 1) ((acc.map iv ++ [iv i]) ++ [iv L[j]])) (hb2 : Below w.heap.size (w1.alloc (.cells #[iv L[j]] 3)) w2) :
    StI L F i w (acc ++ [i] ++ [L[j]]) (j + 1) (m + 2) true A2 c2 w2 := by
  have := h.fin' hj
  rw [if_pos ⟨rfl, e⟩, if_pos (by omega), decide_eq_true e] at this
  have hb1 := (h.below.alloc h.below.size (.cells #[iv i] 3)).trans hb
  exact ⟨by simpa [List.append_assoc] using this, by simp [h.len], by rw [List.map_append, List.map_append]; exact ho, (hb1.alloc hb1.size _).trans hb2⟩
def StB (L F : List Nat) (i : Nat) (w : World) (acc : List Nat) (j m : Nat) (q : Value) (A : Option Addr) (c : Nat) (wr : World) : Prop := ∃ p : Bool, q = .bool p ∧ StI L F i w acc j m p A c wr
theorem Rm.stored (h : Rm w base g bs A n c) {k : Nat} {on : Bool} {A2 : Option Addr} {n2 c2 : Nat} (hb : Below w.heap.size w w1) (ho : w1.ownsRow w.heap.size 3 1 (.slice A2 n2 c2) n2 ((Bmp.trues (bs.set k on) 0).map iv))
    (hn : (Bmp.trues (bs.set k on) 0).length = n2) : Rm (w1.setCell ⟨g, 1, none⟩ (.slice A2 n2 c2)) base g (bs.set k on) A2 n2 c2 := by
  have hgl := h.blk.lt
  refine ⟨?_, ?_, hn, by rw [List.length_set]; exact h.len, h.hg⟩
  · rw [List.length_set]
    exact (h.blk.below hb hgl).set 1 _
  · exact own_lower (own_far ho fun k h1 => heap_setCell_other w1 ⟨g, 1, none⟩ k _ (by show k ≠ g; omega)) (Nat.le_trans h.hg (Nat.le_of_lt hgl))
/-- What the document's Set answers and leaves. -/
def SetR (bs : List Bool) (i : Int) (on : Bool) (base g : Nat) (w : World) (e : Ending) (w' : World) : Prop :=
  e = .returned (.bool (Bmp.set bs i on).1) ∧ (∃ A n c, Rm w' base g (Bmp.set bs i on).2 A n c) ∧ Below base w w' ∧ (∀ k, k < w.heap.size → k ≠ g → w'.heap[k]? = w.heap[k]?)
set_option maxHeartbeats 1000000 in
theorem refSet (h : Rm w base g bs A n c) (i : Int) (on : Bool) : Calls Try.prog 31 #[.pointer (some ⟨g, 0, none⟩), .int .i64 i, .bool on] w (SetR bs i on base g w) := by
  have hc0 := h.c0
  have hc1 := h.c1
  have HH := Lib.hid (refHas h i)
  rw [Bmp.trues_has] at HH
  by_cases hi : 0 ≤ i ∧ i < bs.length
  · by_cases hne : Bmp.has bs i = on
    · have e : Bmp.set bs i on = (false, bs) := by unfold Bmp.set; rw [if_neg]; simp [hne]
      unfold SetR
      rw [e]
      rw [hne] at HH
      have h1 := hi.1
      have h2 := hi.2
      go_enter Try.func31, Try.ntmps31
      go_wp2_with (go_at_call 18; refine HH.out.mono ?_; rintro e w' ⟨rfl, rfl⟩)
      go_ret
      exact ⟨rfl, ⟨A, n, c, h⟩, Below.refl _ _, fun _ _ _ => rfl⟩
    · have e : Bmp.set bs i on = (true, bs.set i.toNat on) := by unfold Bmp.set; rw [if_pos ⟨hi.1, hi.2, hne⟩]
      unfold SetR
      rw [e]
      obtain ⟨k, rfl⟩ : ∃ k : Nat, i = (k : Int) := ⟨i.toNat, by omega⟩
      rw [Int.toNat_natCast]
      have hk : k < bs.length := by omega
      have hn := h.hn
      have hle : n ≤ 65536 := by rw [← hn, Bmp.trues_length]; exact Nat.le_trans (List.count_le_length ..) h.len
      have hkl : k ≤ 65536 := by have := h.len; omega
      have hF := Bmp.putIn_set (on := on) hk (by rw [← Bmp.has_in hk]; exact hne)
      have HM := Lib.hid h
      have HRD := Lib.hid (Rd.of_own h.own)
      have HST := Lib.hid (fun w1 A2 n2 c2 hb ho hl => Rm.stored (k := k) (on := on) (w1 := w1) (A2 := A2) (n2 := n2) (c2 := c2) h hb ho hl)
      have HB := Lib.hid h.hg
      have HGL := Lib.hid h.blk.lt
      have hx : (Bmp.has bs (k : Int) == on) = false := by simpa using hne
      obtain ⟨i0, hi0, hz0, hz1, hz2⟩ := info_parts infoInt
      obtain ⟨F, HF⟩ : ∃ F, Hid (Bmp.trues (bs.set k on) 0 = F) := ⟨_, rfl⟩
      rw [HF.out] at hF HST
      have HPF := Lib.hid hF
      have HN := Lib.hid hn
      clear hF h hn e
      generalize Bmp.trues bs 0 = L at *
      obtain ⟨N, hN⟩ : ∃ N, Hid (bs.length = N) := ⟨_, rfl⟩
      rw [hN.out] at hc0 hi
      have hi1 := hi.2
      clear hi hk hne
      generalize Bmp.has bs (k : Int) = hv at *
      go_enter Try.func31, Try.ntmps31
      have hq1 : decide ((k : Int) < 0) = false := by (first | (simp; done) | (simp; omega))
      have hq2 : decide (N ≤ k) = false := by (first | (simp; done) | (simp; omega))
      have hq3 : decide ((N : Int) ≤ (k : Int)) = false := by (first | (simp; done) | (simp; omega))
      go_upto_region 6 with (go_at_call 18; refine HH.out.mono ?_; rintro e w' ⟨rfl, rfl⟩)
      go_loopw [7, 8, 9] (fun l q jj wr => ∃ (acc : List Nat) (j m : Nat) (A' : Option Addr) (c' : Nat), l = .slice A' m c' ∧ jj = .int .i64 j ∧ j ≤ n ∧ m ≤ 2 * j ∧ StB L F k w' acc j m q A' c' wr) (fun _ _ jj _ => n - (intOf jj).toNat)
      case atStart => exact ⟨[], 0, 0, none, 0, rfl, rfl, Nat.zero_le _, Nat.le_refl _, !on, rfl, ⟨by rw [List.nil_append, List.drop_zero]; exact HPF.out, rfl, World.ownsRow_nil _ _ _ _, Below.refl _ _⟩⟩
      case round =>
        obtain ⟨acc, j, m, A', c', rfl, rfl, hj, hm, p, rfl, hI0⟩ := hrel
        have hI := Lib.hid hI0
        clear hI0
        have hMr := HM.out.below hI.out.below
        have hc0' := hMr.c0
        have hc1' := hMr.c1
        rw [hN.out] at hc0'
        have HRr := Lib.hid (HRD.out.below hI.out.below)
        have hB := hI.out.below.size
        have HO := Lib.hid hI.out.own
        have hns : (acc.map iv).length = m := by rw [List.length_map]; exact hI.out.len
        clear hMr
        by_cases hlt : j < n
        · have hjL : j < L.length := by rw [HN.out]; exact hlt
          obtain ⟨ad, rfl, hc⟩ := rd_int HRr.out hjL
          by_cases hxe : L[j] = k
          · have HX := Lib.hid (hI.out.same hjL hxe)
            rw [hxe] at hc
            clear hxe hI HO
            cases p
            · go_wp2
              first | exact ⟨⟨acc, j + 1, m, A', c', rfl, by go_num, hlt, by omega, false, rfl, HX⟩, by simp [intOf]; omega⟩ | exact ⟨⟨_, _, _, ⟨acc, j + 1, m, A', c', rfl, rfl, hlt, by omega, false, rfl, HX⟩, rfl, rfl, by go_num⟩, by simp [intOf]; omega⟩ | (go_roundw; (case rel => exact ⟨acc, j + 1, m, A', c', rfl, by go_num, hlt, by omega, false, rfl, HX⟩); (case measure => simp [intOf]; omega))
            · go_wp2
              first | exact ⟨⟨acc, j + 1, m, A', c', rfl, by go_num, hlt, by omega, true, rfl, HX⟩, by simp [intOf]; omega⟩ | exact ⟨⟨_, _, _, ⟨acc, j + 1, m, A', c', rfl, rfl, hlt, by omega, true, rfl, HX⟩, rfl, rfl, by go_num⟩, by simp [intOf]; omega⟩ | (go_roundw; (case rel => exact ⟨acc, j + 1, m, A', c', rfl, by go_num, hlt, by omega, true, rfl, HX⟩); (case measure => simp [intOf]; omega))
          · have HP := Lib.hid (fun hp A1 c1 w1 ho hb => StI.push (A1 := A1) (c1 := c1) (w1 := w1) hI.out hjL hxe hp ho hb)
            generalize hxl : L[j] = x at hc HP hxe
            have HXL := Lib.hid hxl
            clear hxl
            have HT : Hid (∀ (hp : p = false) (hk2 : k < x) (A1 A2 : Option Addr) (c1 c2 : Nat) (w1 w2 : World), Below w'.heap.size (wr.alloc (.cells #[iv k] 3)) w1 → w2.ownsRow w'.heap.size 3 1 (.slice A2 (m + 1 + 1) c2) (m + 1 + 1) ((acc.map iv ++ [iv k]) ++ [iv x]) → Below w'.heap.size (w1.alloc (.cells #[iv x] 3)) w2 → StI L F k w' (acc ++ [k] ++ [x]) (j + 1) (m + 2) true A2 c2 w2) := by
              intro hp hk2 A1 A2 c1 c2 w1 w2 hb ho hb2
              subst hp
              have hxl := HXL.out
              subst hxl
              exact StI.two (A1 := A1) (c1 := c1) hI.out hjL hk2 hb ho hb2
            have HRX : Hid (∀ W, Below w'.heap.size w' W → W.cell? (ad.add j) = some (.int .i64 (x : Int))) := by
              intro W hW
              obtain ⟨ad2, e2, q2⟩ := rd_int (HRD.out.below hW) hjL
              injection e2 with e2
              subst e2
              have hxl := HXL.out
              subst hxl
              exact q2
            clear HXL hjL
            by_cases hk2 : k < x
            · cases p
              · clear HP
                go_upto_region 10 with (at_builtin; go_loud (refine wpList_app _ rfl (.tmp 51) (.tmp 53) _ rfl w'.heap.size 3 i0 _ 8 Try.underlying22 hi0 hz0 hz1 hz2 rfl A' m c' (acc.map iv) rfl (HO.out.alloc _) _ (some ⟨wr.heap.size, 0, none⟩) 1 1 [iv k] rfl rfl (Rd.new wr _ _ _ rfl) (iv_one (l := [k])) (by unfold maxLen; omega) (by omega) (by first | (simp; done) | (simp; omega) | omega) ?_; intro A1 c1' w1 ho1 hg1 hb1; have HB1 := Lib.hid hb1; have hbx := (hI.out.below.alloc hB _).trans hb1; have hB1 := hbx.size; have HO1 := Lib.hid ho1; have hns1 : (acc.map iv ++ [iv k]).length = m + 1 := (by simp [hns]); have q0 := (HM.out.below hbx).c0; have q1 := (HM.out.below hbx).c1; have q2 := HRX.out w1 hbx; clear hg1 hb1 hbx ho1))
                go_wp2_with (at_builtin; go_loud (refine wpList_app _ rfl (.tmp 64) (.tmp 72) _ rfl w'.heap.size 3 i0 _ 8 Try.underlying22 hi0 hz0 hz1 hz2 rfl A1 (m + 1) c1' (acc.map iv ++ [iv k]) rfl (HO1.out.alloc _) _ (some ⟨w1.heap.size, 0, none⟩) 1 1 [iv x] rfl rfl (Rd.new w1 _ _ _ rfl) (iv_one (l := [x])) (by unfold maxLen; omega) (by omega) (by first | (simp; done) | (simp; omega) | omega) ?_; intro A2 c2' w2 ho2 hg2 hb2; have HX := Lib.hid (HT.out rfl hk2 A1 A2 c1' c2' w1 w2 HB1.out ho2 hb2); clear hg2 hb2))
                first | exact ⟨⟨acc ++ [k] ++ [x], j + 1, m + 2, A2, c2', by go_num, by go_num, hlt, by omega, true, rfl, HX⟩, by simp [intOf]; omega⟩ | exact ⟨⟨_, _, _, ⟨acc ++ [k] ++ [x], j + 1, m + 2, A2, c2', by go_num, rfl, hlt, by omega, true, rfl, HX⟩, rfl, rfl, by go_num⟩, by simp [intOf]; omega⟩ | (go_roundw; (case rel => exact ⟨acc ++ [k] ++ [x], j + 1, m + 2, A2, c2', by go_num, by go_num, hlt, by omega, true, rfl, HX⟩); (case measure => simp [intOf]; omega))
              · skip
                go_wp2_with (at_builtin; refine wpList_app _ rfl (.tmp 64) (.tmp 72) _ rfl w'.heap.size 3 i0 _ 8 Try.underlying22 hi0 hz0 hz1 hz2 rfl A' m c' (acc.map iv) rfl (HO.out.alloc _) _ (some ⟨wr.heap.size, 0, none⟩) 1 1 [iv x] rfl rfl (Rd.new wr _ _ _ rfl) (iv_one (l := [x])) (by unfold maxLen; omega) (by omega) (by first | (simp; done) | (simp; omega) | omega) ?_; intro A1 c1' w1 ho1 hg1 hb1; have HX := Lib.hid (HP.out (by rintro ⟨h1, h2⟩; first | (cases h1; done) | omega) _ _ _ ho1 hb1); clear hg1 hb1)
                first | exact ⟨⟨acc ++ [x], j + 1, m + 1, A1, c1', rfl, by go_num, hlt, by omega, true, rfl, HX⟩, by simp [intOf]; omega⟩ | exact ⟨⟨_, _, _, ⟨acc ++ [x], j + 1, m + 1, A1, c1', rfl, rfl, hlt, by omega, true, rfl, HX⟩, rfl, rfl, by go_num⟩, by simp [intOf]; omega⟩ | (go_roundw; (case rel => exact ⟨acc ++ [x], j + 1, m + 1, A1, c1', rfl, by go_num, hlt, by omega, true, rfl, HX⟩); (case measure => simp [intOf]; omega))
            · cases p
              · skip
                go_wp2_with (at_builtin; refine wpList_app _ rfl (.tmp 64) (.tmp 72) _ rfl w'.heap.size 3 i0 _ 8 Try.underlying22 hi0 hz0 hz1 hz2 rfl A' m c' (acc.map iv) rfl (HO.out.alloc _) _ (some ⟨wr.heap.size, 0, none⟩) 1 1 [iv x] rfl rfl (Rd.new wr _ _ _ rfl) (iv_one (l := [x])) (by unfold maxLen; omega) (by omega) (by first | (simp; done) | (simp; omega) | omega) ?_; intro A1 c1' w1 ho1 hg1 hb1; have HX := Lib.hid (HP.out (by rintro ⟨h1, h2⟩; first | (cases h1; done) | omega) _ _ _ ho1 hb1); clear hg1 hb1)
                first | exact ⟨⟨acc ++ [x], j + 1, m + 1, A1, c1', rfl, by go_num, hlt, by omega, false, rfl, HX⟩, by simp [intOf]; omega⟩ | exact ⟨⟨_, _, _, ⟨acc ++ [x], j + 1, m + 1, A1, c1', rfl, rfl, hlt, by omega, false, rfl, HX⟩, rfl, rfl, by go_num⟩, by simp [intOf]; omega⟩ | (go_roundw; (case rel => exact ⟨acc ++ [x], j + 1, m + 1, A1, c1', rfl, by go_num, hlt, by omega, false, rfl, HX⟩); (case measure => simp [intOf]; omega))
              · skip
                go_wp2_with (at_builtin; refine wpList_app _ rfl (.tmp 64) (.tmp 72) _ rfl w'.heap.size 3 i0 _ 8 Try.underlying22 hi0 hz0 hz1 hz2 rfl A' m c' (acc.map iv) rfl (HO.out.alloc _) _ (some ⟨wr.heap.size, 0, none⟩) 1 1 [iv x] rfl rfl (Rd.new wr _ _ _ rfl) (iv_one (l := [x])) (by unfold maxLen; omega) (by omega) (by first | (simp; done) | (simp; omega) | omega) ?_; intro A1 c1' w1 ho1 hg1 hb1; have HX := Lib.hid (HP.out (by rintro ⟨h1, h2⟩; first | (cases h1; done) | omega) _ _ _ ho1 hb1); clear hg1 hb1)
                first | exact ⟨⟨acc ++ [x], j + 1, m + 1, A1, c1', rfl, by go_num, hlt, by omega, true, rfl, HX⟩, by simp [intOf]; omega⟩ | exact ⟨⟨_, _, _, ⟨acc ++ [x], j + 1, m + 1, A1, c1', rfl, rfl, hlt, by omega, true, rfl, HX⟩, rfl, rfl, by go_num⟩, by simp [intOf]; omega⟩ | (go_roundw; (case rel => exact ⟨acc ++ [x], j + 1, m + 1, A1, c1', rfl, by go_num, hlt, by omega, true, rfl, HX⟩); (case measure => simp [intOf]; omega))
        · have hfin := hI.out.fin
          rw [List.drop_eq_nil_of_le (by rw [HN.out]; omega), Bmp.putIn] at hfin
          have HL := Lib.hid hI.out.len
          have HBW := Lib.hid hI.out.below
          have hfr := (HM.out.below hI.out.below).blk.frozen 1
          cases p
          · rw [if_neg (by decide)] at hfin
            have HFI := Lib.hid hfin
            clear hfin hI
            go_wp2_with (at_builtin; refine wpList_app _ rfl (.tmp 76) (.tmp 78) _ rfl w'.heap.size 3 i0 _ 8 Try.underlying22 hi0 hz0 hz1 hz2 rfl A' m c' (acc.map iv) rfl (HO.out.alloc _) _ (some ⟨wr.heap.size, 0, none⟩) 1 1 [iv k] rfl rfl (Rd.new wr _ _ _ rfl) (iv_one (l := [k])) (by unfold maxLen; omega) (by omega) (by first | (simp; done) | (simp; omega) | omega) ?_; intro A1 c1' w1 ho1 hg1 hb1; have HB1 := Lib.hid ((HBW.out.alloc hB _).trans hb1); have HO1 := Lib.hid ho1; have q0 := (HM.out.below HB1.out).c1; have q1 := (HM.out.below HB1.out).blk.frozen 1; clear hg1 hb1 ho1)
            go_ret
            exact ⟨rfl, ⟨A1, m + 1, c1', HST.out w1 A1 (m + 1) c1' HB1.out (by rw [← HFI.out, List.map_append]; exact HO1.out) (by rw [← HFI.out, List.length_append, HL.out]; rfl)⟩, (HB1.out.mono (Nat.le_trans HB.out (Nat.le_of_lt HGL.out))).setCell HB.out _, fun k h1 h2 => (heap_setCell_other w1 ⟨g, 1, none⟩ k _ h2).trans (HB1.out.block k h1)⟩
          · rw [if_pos rfl, List.append_nil] at hfin
            have HFI := Lib.hid hfin
            clear hfin hI
            go_wp2
            go_ret
            exact ⟨rfl, ⟨A', m, c', HST.out wr A' m c' HBW.out (by rw [← HFI.out]; exact HO.out) (by rw [← HFI.out, HL.out])⟩, (HBW.out.mono (Nat.le_trans HB.out (Nat.le_of_lt HGL.out))).setCell HB.out _, fun k h1 h2 => (heap_setCell_other wr ⟨g, 1, none⟩ k _ h2).trans (HBW.out.block k h1)⟩
  · have e : Bmp.set bs i on = (false, bs) := by unfold Bmp.set; rw [if_neg]; intro hh; exact hi ⟨hh.1, hh.2.1⟩
    unfold SetR
    rw [e]
    by_cases h1 : i < 0
    · go_enter Try.func31, Try.ntmps31
      go_wp2
      go_ret
      exact ⟨rfl, ⟨A, n, c, h⟩, Below.refl _ _, fun _ _ _ => rfl⟩
    · have h2 : (bs.length : Int) ≤ i := by omega
      go_enter Try.func31, Try.ntmps31
      go_wp2
      go_ret
      exact ⟨rfl, ⟨A, n, c, h⟩, Below.refl _ _, fun _ _ _ => rfl⟩
end Cib
