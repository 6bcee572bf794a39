/- Changes of rows: the small functions. -/
import Derived.Test.YtmfilmkdaokbbaaCodH
import Derived.Test.YtmfilmkdaokbbaaCodI
set_option linter.unusedVariables false
set_option linter.unusedSimpArgs false
set_option maxRecDepth 40000
namespace Cib
open Go Go.RowKit Go.Proofs
section
variable {w : World} {g gf k m c : Nat} {A : Option Addr}
theorem cdN0 (w : World) : Calls Try.prog 28 #[.pointer none] w fun e w' => e = .returned (.int .i64 0) ∧ w' = w := by
  go_enter Try.func28, Try.ntmps28
  go_wp2_with (go_at_call 44; refine (cdNone0 w).mono ?_; rintro e w' ⟨rfl, rfl⟩)
  go_ret
  exact ⟨rfl, rfl⟩
theorem dlNone0 (w : World) : Calls Try.prog 26 #[.pointer none] w fun e w' => e = .returned (.bool true) ∧ w' = w := by
  go_enter Try.func26, Try.ntmps26
  go_wp2_with (go_at_call 28; refine (cdN0 w).mono ?_; rintro e w' ⟨rfl, rfl⟩)
  go_ret
  exact ⟨rfl, rfl⟩
theorem dlNone (h : Cdr w g gf k m A c) : Calls Try.prog 26 #[.pointer (some ⟨g, 0, none⟩)] w fun e w' => e = .returned (.bool false) ∧ w' = w.drew := by
  have HN := Lib.hid (cdN h)
  have hk := h.hk
  have hs := h.hs
  have hz : ((k : Int) + (m : Int) == 0) = false := by simp; omega
  clear h
  go_enter Try.func26, Try.ntmps26
  go_wp2_with (go_at_call 28; refine HN.out.mono ?_; rintro e w' ⟨rfl, rfl⟩)
  go_ret
  exact ⟨rfl, rfl⟩
theorem dlIsData (h : Cdr w g gf k m A c) (j : Int) : Calls Try.prog 27 #[.pointer (some ⟨g, 0, none⟩), .int .i64 j] w fun e w' => e = .returned (.bool (decide (0 ≤ j ∧ j < (k : Int)))) ∧ w' = w := by
  have HK := Lib.hid (cdK h)
  clear h
  by_cases h0 : 0 ≤ j
  · by_cases h1 : j < (k : Int)
    · rw [decide_eq_true ⟨h0, h1⟩]
      go_enter Try.func27, Try.ntmps27
      go_wp2_with (go_at_call 38; refine HK.out.mono ?_; rintro e w' ⟨rfl, rfl⟩)
      go_ret
      exact ⟨rfl, rfl⟩
    · rw [decide_eq_false (fun x => h1 x.2)]
      have hd : decide (j < (k : Int)) = false := by simp; omega
      go_enter Try.func27, Try.ntmps27
      go_wp2_with (go_at_call 38; refine HK.out.mono ?_; rintro e w' ⟨rfl, rfl⟩)
      go_ret
      exact ⟨rfl, rfl⟩
  · rw [decide_eq_false (fun x => h0 x.1)]
    go_enter Try.func27, Try.ntmps27
    go_wp2_with fail
    go_ret
    exact ⟨rfl, rfl⟩
end
/-- Are rows so many, and so wide? -/
def wdB (l : List Nat) (many width : Nat) : Bool := l.all (· == width) && decide (l.length = many)
set_option maxHeartbeats 800000 in
theorem dlWide (L : List RowB) (B : Nat) (A : Option Addr) (n k many width : Nat) (w : World) (hr : Rd w B A (L.map RowB.v)) (hn : L.length = n) (hn2 : n ≤ maxLen) (hm : many ≤ 1000000) (hw : width ≤ maxLen) (hrn : ∀ r ∈ L, r.n ≤ maxLen) :
    Calls Try.prog 34 #[.slice A n k, .int .i64 (many : Int), .int .i64 (width : Int)] w fun e w' => e = .returned (.bool (wdB (lns L) many width)) ∧ w' = w := by
  unfold maxLen at hn2 hw hrn
  have HR := Lib.hid hr
  have HN := Lib.hid hn
  have HM := Lib.hid hrn
  have HF : Hid (wdB (lns L) many width = true ↔ (∀ j (h : j < L.length), L[j].n = width) ∧ n = many) := by
    show _ ↔ _
    unfold wdB lns
    rw [Bool.and_eq_true, decide_eq_true_eq, List.all_eq_true, List.length_map, ← hn]
    refine and_congr_left fun _ => ⟨fun h j hj => ?_, fun h x hx => ?_⟩
    · simpa using h L[j].n (List.mem_map.2 ⟨_, List.getElem_mem hj, rfl⟩)
    · obtain ⟨r, hr, rfl⟩ := List.mem_map.1 hx
      obtain ⟨j, hj, rfl⟩ := List.mem_iff_getElem.1 hr
      simpa using h j hj
  obtain ⟨F, hF⟩ : ∃ F, Hid (wdB (lns L) many width = F) := ⟨_, rfl⟩
  rw [hF.out] at HF ⊢
  clear hr hn hrn hF
  go_enter Try.func34, Try.ntmps34
  go_wp2
  go_loopw [8, 11] (fun _ i wr => ∃ p : Nat, i = .int .i64 p ∧ p ≤ n ∧ wr = w ∧ Hid (∀ j (h : j < L.length), j < p → L[j].n = width)) (fun _ i _ => n - (intOf i).toNat)
  case atStart => exact ⟨0, rfl, Nat.zero_le _, rfl, fun j _ hj => by omega⟩
  case round =>
    obtain ⟨p, rfl, hp, rfl, hI⟩ := hrel
    by_cases hlt : p < n
    · have hpl : p < L.length := by rw [HN.out]; exact hlt
      obtain ⟨ad, rfl, hab, hcell⟩ := HR.out.row hpl
      have hmq := HM.out _ (List.getElem_mem hpl)
      by_cases he : L[p].n = width
      · have hI2 : Hid (∀ j (h : j < L.length), j < p + 1 → L[j].n = width) := fun j h hj => by
          by_cases hjp : j = p
          · subst hjp
            exact he
          · exact hI.out j h (by omega)
        rw [he] at hcell
        clear hI he
        go_wp2
        go_roundw
        case rel => exact ⟨p + 1, by go_num, hlt, by first | rfl | trivial, hI2⟩
        case measure => simp [intOf]; omega
      · obtain rfl : F = false := by
          cases F with
          | false => rfl
          | true => exact absurd ((HF.out.1 rfl).1 p hpl) he
        generalize L[p] = r1 at *
        have hne : ((r1.n : Int) != (width : Int)) = true := by rw [bne_iff_ne]; omega
        clear hI
        go_wp2
        go_ret
        exact ⟨rfl, rfl⟩
    · obtain rfl : p = n := by omega
      by_cases hmm : p = many
      · subst hmm
        obtain rfl : F = true := HF.out.2 ⟨fun j hj => hI.out j hj (by rw [← HN.out]; exact hj), rfl⟩
        go_wp2
        go_ret
        exact ⟨rfl, rfl⟩
      · obtain rfl : F = false := by
          cases F with
          | false => rfl
          | true => exact absurd (HF.out.1 rfl).2 hmm
        have hne : ((p : Int) == (many : Int)) = false := by simp; omega
        go_wp2
        go_ret
        exact ⟨rfl, rfl⟩
theorem addB_set (a b : List UInt8) {q : Nat} (h1 : q < a.length) (h2 : a.length ≤ b.length) : (fillB (addB a b) q).set q (UInt8.ofNat (a[q].toNat ^^^ (b[q]'(by omega)).toNat)) = fillB (addB a b) (q + 1) := by
  have hl : q < (addB a b).length := by rw [addB_length]; omega
  have := fillB_set (addB a b) q hl
  rw [← this]
  congr 1
  simp [addB]
theorem dlPlus (A1 A2 : Option Addr) (n1 c1 n2 c2 : Nat) (a b : List UInt8) (B : Nat) (w : World) (h1 : Rd w B A1 (a.map bv)) (h2 : Rd w B A2 (b.map bv)) (hn1 : a.length = n1) (hn2 : b.length = n2) (hle : n1 ≤ n2) (hB : B ≤ w.heap.size) (hl2 : n2 ≤ 1000000000) :
    Calls Try.prog 36 #[.slice A1 n1 c1, .slice A2 n2 c2] w (NewB (addB a b) w) := by
  have hmk := makeB n1 (by omega)
  have H1 := Lib.hid h1
  have H2 := Lib.hid h2
  have HN1 := Lib.hid hn1
  have HN2 := Lib.hid hn2
  have HLL : Hid ((addB a b).length = n1) := (show _ = _ by rw [addB_length, hn1, hn2]; omega)
  clear h1 h2 hn1 hn2
  go_enter Try.func36, Try.ntmps36
  go_wp2
  go_loopw [6, 7, 13] (fun _ _ i wr => ∃ q : Nat, i = .int .i64 q ∧ q ≤ n1 ∧ Hid (wr.ownsRow w.heap.size 5 1 (.slice (some ⟨w.heap.size, 0, none⟩) n1 n1) n1 ((fillB (addB a b) q).map bv)) ∧ Hid (Below w.heap.size w wr)) (fun _ _ i _ => n1 - (intOf i).toNat)
  case atStart =>
    refine ⟨0, rfl, Nat.zero_le _, ?_, (Below.refl _ _).alloc (Nat.le_refl _) _⟩
    show World.ownsRow _ _ _ _ _ _ _
    rw [fillB_zero, List.map_replicate, HLL.out]
    exact own_made w _ _ _ _ _ (Nat.le_refl _) (by omega) (by unfold maxLen; omega)
  case round =>
    obtain ⟨q, rfl, hq, HO, HB1⟩ := hrel
    by_cases hlt : q < n1
    · have hqa : q < a.length := by rw [HN1.out]; exact hlt
      have hqb : q < b.length := by rw [HN2.out]; omega
      obtain ⟨ad1, rfl, hab1, hc1⟩ := (H1.out.below (HB1.out.mono hB)).byte hqa
      obtain ⟨ad2, rfl, hab2, hc2⟩ := (H2.out.below (HB1.out.mono hB)).byte hqb
      have HNX := Lib.hid (addB_set a b hqa (by rw [HN1.out, HN2.out]; exact hle))
      obtain ⟨hc3, hf3, hset⟩ := own_byte HO.out (j := q) (by rw [fillB_length _ _ (by rw [HLL.out]; exact hq), HLL.out]; exact hlt)
      have hd1 := a[q].toNat_lt
      have hd2 := b[q].toNat_lt
      have hx := u8_xor_nat _ _ hd1 hd2
      obtain ⟨z, hz8, hzn⟩ := byte_mk (Fld.xor_lt hd1 hd2)
      rw [hz8.out] at HNX
      rw [hzn] at hx
      have HS := Lib.hid (hset z 0)
      rw [HNX.out] at HS
      have HBN := Lib.hid (HB1.out.setCell (p := ⟨w.heap.size, q, none⟩) (Nat.le_refl _) (.int .u8 (z.toNat : Int)))
      clear hset hz8 hzn
      generalize a[q].toNat = x1 at *
      generalize b[q].toNat = x2 at *
      go_wp2
      go_roundw
      case rel => exact ⟨q + 1, by go_num, hlt, HS, HBN⟩
      case measure => simp [intOf]; omega
    · obtain rfl : q = n1 := by omega
      have HT : Hid (fillB (addB a b) q = addB a b) := (show _ = _ by rw [← HLL.out]; exact fillB_all _)
      rw [HT.out] at HO
      go_wp2
      go_ret
      exact ⟨_, _, _, rfl, HLL.out, HO.out, HB1.out⟩
theorem dlClean (A1 : Option Addr) (n1 c1 : Nat) (a : List UInt8) (B : Nat) (w : World) (h1 : Rd w B A1 (a.map bv)) (hn1 : a.length = n1) (hl1 : n1 ≤ maxLen) :
    Calls Try.prog 41 #[.slice A1 n1 c1] w fun e w' => e = .returned (.bool (a.all (· == 0))) ∧ w' = w := by
  unfold maxLen at hl1
  have H1 := Lib.hid h1
  have HN1 := Lib.hid hn1
  have HF : Hid (a.all (· == 0) = true ↔ ∀ j (h : j < a.length), a[j] = 0) := by
    show _ ↔ _
    rw [List.all_eq_true]
    refine ⟨fun h j hj => by simpa using h _ (List.getElem_mem hj), fun h x hx => ?_⟩
    obtain ⟨j, hj, rfl⟩ := List.mem_iff_getElem.1 hx
    simpa using h j hj
  obtain ⟨F, hF⟩ : ∃ F, Hid (a.all (· == 0) = F) := ⟨_, rfl⟩
  rw [hF.out] at HF ⊢
  clear h1 hn1 hF
  go_enter Try.func41, Try.ntmps41
  go_wp2
  go_loopw [4, 7] (fun _ i wr => ∃ q : Nat, i = .int .i64 q ∧ q ≤ n1 ∧ wr = w ∧ Hid (∀ j (h : j < a.length), j < q → a[j] = 0)) (fun _ i _ => n1 - (intOf i).toNat)
  case atStart => exact ⟨0, rfl, Nat.zero_le _, rfl, fun j _ hj => by omega⟩
  case round =>
    obtain ⟨q, rfl, hq, rfl, hI⟩ := hrel
    by_cases hlt : q < n1
    · have hqa : q < a.length := by rw [HN1.out]; exact hlt
      obtain ⟨ad1, rfl, hab1, hc1⟩ := H1.out.byte hqa
      by_cases he : a[q] = 0
      · have hI2 : Hid (∀ j (h : j < a.length), j < q + 1 → a[j] = 0) := fun j h hj => by
          by_cases hjp : j = q
          · subst hjp
            exact he
          · exact hI.out j h (by omega)
        rw [he] at hc1
        clear hI he
        go_wp2
        go_roundw
        case rel => exact ⟨q + 1, by go_num, hlt, by first | rfl | trivial, hI2⟩
        case measure => simp [intOf]; omega
      · obtain rfl : F = false := by
          cases F with
          | false => rfl
          | true => exact absurd (HF.out.1 rfl q hqa) he
        have hne0 : a[q].toNat ≠ 0 := fun h => he (by apply UInt8.toNat_inj.1; exact h)
        generalize a[q].toNat = x at *
        have hne : ((x : Int) != 0) = true := by rw [bne_iff_ne]; omega
        clear hI
        go_wp2
        go_ret
        exact ⟨rfl, rfl⟩
    · obtain rfl : q = n1 := by omega
      obtain rfl : F = true := HF.out.2 fun j hj => hI.out j hj (by rw [← HN1.out]; exact hj)
      go_wp2
      go_ret
      exact ⟨rfl, rfl⟩
/-- Row by row, the sums of two lists of rows: the first p. -/
def Dlt.adds (X Y : List (List UInt8)) (p : Nat) : List (List UInt8) := (List.range p).map fun i => addB (X.getD i []) (Y.getD i [])
theorem Dlt.adds_next (X Y : List (List UInt8)) (p : Nat) : Dlt.adds X Y (p + 1) = Dlt.adds X Y p ++ [addB (X.getD p []) (Y.getD p [])] := by simp [Dlt.adds, List.range_succ]
theorem Dlt.adds_length (X Y : List (List UInt8)) (p : Nat) : (Dlt.adds X Y p).length = p := by simp [Dlt.adds]
/-- New rows. -/
def NewRs (D : List (List UInt8)) (w : World) (e : Ending) (w' : World) : Prop :=
  ∃ A n c L, e = .returned (.slice A n c) ∧ bss L = D ∧ L.length = n ∧ w'.ownsRow w.heap.size 22 1 (.slice A n c) n (L.map RowB.v) ∧ RowsNew w' w.heap.size L ∧ Below w.heap.size w w'
theorem MadeI.made (w : World) (n : Nat) (hn : n ≤ maxLen) : MadeI w [] (some ⟨w.heap.size, 0, none⟩) n [] (w.alloc (.cells (madeCells #[.slice none 0 0] n) 22)) :=
  ⟨rfl, by have := own_made w w.heap.size 22 (.slice none 0 0) 0 n (Nat.le_refl _) (Nat.zero_le _) hn; simpa using this, RowsNew.nil, (Below.refl _ _).alloc (Nat.le_refl _) _⟩
set_option maxHeartbeats 800000 in
theorem dlEach (L1 L2 : List RowB) (B : Nat) (A1 A2 : Option Addr) (n1 c1 n2 c2 W : Nat) (w : World) (h1 : Rd w B A1 (L1.map RowB.v)) (hR1 : RowsAt w B L1) (h2 : Rd w B A2 (L2.map RowB.v)) (hR2 : RowsAt w B L2) (hB : B ≤ w.heap.size) (hn1 : L1.length = n1) (hn2 : L2.length = n2) (hle : n1 ≤ n2) (hnm : n1 ≤ 1000)
    (hw1 : ∀ r ∈ L1, r.n = W) (hw2 : ∀ r ∈ L2, r.n = W) (hW : W ≤ 1000000000) :
    Calls Try.prog 37 #[.slice A1 n1 c1, .slice A2 n2 c2, .func (.func 36) #[] #[]] w (NewRs (Dlt.adds (bss L1) (bss L2) n1) w) := by
  have hmk : ∀ V : World, (Instr.makeSlice 23 (.int .i64 0) (.int .i64 (n1 : Int))).run Try.prog V = .ok (.slice (some ⟨V.heap.size, 0, none⟩) 0 n1) (V.alloc (.cells (madeCells #[.slice none 0 0] n1) 22)) := makeR 0 n1 (Nat.zero_le _) (by omega)
  have H1 := Lib.hid h1
  have H2 := Lib.hid h2
  have HR1 := Lib.hid hR1
  have HR2 := Lib.hid hR2
  have HN1 := Lib.hid hn1
  have HN2 := Lib.hid hn2
  have HW1 := Lib.hid hw1
  have HW2 := Lib.hid hw2
  have HMD := Lib.hid (MadeI.made w n1 (by unfold maxLen; omega))
  clear h1 h2 hR1 hR2 hn1 hn2 hw1 hw2
  go_enter Try.func37, Try.ntmps37
  go_wp2
  go_loopw [7, 8, 9, 15] (fun l _ _ i wr => ∃ (p : Nat) (A' : Option Addr) (c' : Nat) (M : List RowB), i = .int .i64 p ∧ p ≤ n1 ∧ l = .slice A' p c' ∧ Hid (MadeI w (Dlt.adds (bss L1) (bss L2) p) A' c' M wr)) (fun _ _ _ i _ => n1 - (intOf i).toNat)
  case atStart => exact ⟨0, _, n1, [], rfl, Nat.zero_le _, rfl, HMD⟩
  case round =>
    clear hmk HMD
    obtain ⟨p, A', c', M, rfl, hp, rfl, HI⟩ := hrel
    have HML := Lib.hid HI.out.len
    rw [Dlt.adds_length] at HML
    have hz := HI.out.below.size
    by_cases hlt : p < n1
    · have hp1 : p < L1.length := by rw [HN1.out]; exact hlt
      have hp2 : p < L2.length := by rw [HN2.out]; omega
      obtain ⟨ad1, rfl, hab1, hcell1⟩ := (H1.out.below (HI.out.below.mono hB)).row hp1
      obtain ⟨ad2, rfl, hab2, hcell2⟩ := (H2.out.below (HI.out.below.mono hB)).row hp2
      have hq1 := (HR1.out.get hp1).below (HI.out.below.mono hB)
      have hq2 := (HR2.out.get hp2).below (HI.out.below.mono hB)
      have he1 := HW1.out _ (List.getElem_mem hp1)
      have he2 := HW2.out _ (List.getElem_mem hp2)
      have HG1 : Hid ((bss L1).getD p [] = L1[p].bs) := (show _ = _ from bss_get hp1)
      have HG2 : Hid ((bss L2).getD p [] = L2[p].bs) := (show _ = _ from bss_get hp2)
      generalize L1[p] = r1 at *
      generalize L2[p] = r2 at *
      obtain ⟨rA1, rn1, rc1, x1⟩ := r1
      obtain ⟨rA2, rn2, rc2, x2⟩ := r2
      simp only at hcell1 hcell2 he1 he2 HG1 HG2
      subst he1
      subst he2
      have HAD := Lib.hid (dlPlus rA1 rA2 rn2 rc1 rn2 rc2 x1 x2 B wr hq1.rd hq2.rd hq1.len hq2.len (Nat.le_refl _) (Nat.le_trans hB hz) hW)
      have HPU := Lib.hid (fun A5 n5 c5 w5 hb ho A6 c6 w6 ho6 hg6 hb6 => HI.out.push (w2 := w5) (w3 := w6) (A3 := A6) (c3 := c6) (x := addB x1 x2) (r := ⟨A5, n5, c5, addB x1 x2⟩) rfl hb ho ho6 hg6 hb6)
      rw [Dlt.adds_length] at HPU
      have HNX : Hid (Dlt.adds (bss L1) (bss L2) p ++ [addB x1 x2] = Dlt.adds (bss L1) (bss L2) (p + 1)) := (show _ = _ by rw [Dlt.adds_next, HG1.out, HG2.out])
      rw [HNX.out] at HPU
      have HOO := Lib.hid HI.out.own
      rw [Dlt.adds_length] at HOO
      clear hq1 hq2 HI HG1 HG2 HNX
      go_wp2_with fail
      refine HAD.out.mono ?_
      rintro e w5 ⟨A5, n5, c5, rfl, hn5, ho5, hb5⟩
      have HO5 := Lib.hid ho5
      have HB5 := Lib.hid hb5
      have hz5 := hb5.size
      clear ho5 hb5
      go_wp2_with (at_builtin; refine appR _ rfl (.tmp 20) (.tmp 28) rfl w.heap.size A' p c' (M.map RowB.v) rfl ((own_via HOO.out HB5.out).alloc _) _ (some ⟨w5.heap.size, 0, none⟩) 1 1 [.slice A5 n5 c5] rfl rfl (Rd.new w5 _ _ _ rfl) (one_rows (L := [⟨A5, n5, c5, []⟩])) (by omega) (by simp; omega) ?_; intro A6 c6 w6 ho6 hg6 hb6)
      go_roundw
      case rel => exact ⟨p + 1, A6, c6, _, by go_num, hlt, rfl, HPU.out A5 n5 c5 w5 HB5.out HO5.out A6 c6 w6 ho6 hg6 hb6⟩
      case measure => simp [intOf]; omega
    · obtain rfl : p = n1 := by omega
      have hI := HI.out
      have ho := hI.own
      rw [Dlt.adds_length] at ho
      go_wp2
      go_ret
      exact ⟨A', p, c', M, rfl, hI.bs, HML.out, ho, hI.rows, hI.below⟩
end Cib
