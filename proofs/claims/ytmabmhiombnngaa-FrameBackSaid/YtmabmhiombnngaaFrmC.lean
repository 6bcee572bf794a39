/- Cut: a text in pieces. -/
import Derived.Test.YtmabmhiombnngaaFrmW
import Derived.Deep.RegionWith
set_option linter.unusedVariables false
set_option linter.unusedSimpArgs false
set_option maxRecDepth 20000
namespace Cib
open Go Go.RowKit Go.Proofs
/-- Rows of the call's own, under way. -/
structure CutI (w : World) (L : List RowB) (A : Option Addr) (c : Nat) (wr : World) : Prop where
  own : wr.ownsRow w.heap.size 26 1 (.slice A L.length c) L.length (L.map RowB.v)
  rows : RowsNew wr w.heap.size L
  below : Below w.heap.size w wr
theorem CutI.nil (w : World) : CutI w [] none 0 w := ⟨World.ownsRow_nil _ _ _ _, RowsNew.nil, Below.refl _ _⟩
theorem CutI.via {w wr w2 : World} {L : List RowB} {A : Option Addr} {c : Nat} (h : CutI w L A c wr) (hb : Below wr.heap.size wr w2) : CutI w L A c w2 := ⟨own_via h.own hb, h.rows.below hb, h.below.via hb⟩
theorem CutI.push {w wr w2 w3 : World} {L : List RowB} {A A3 : Option Addr} {c c3 : Nat} (h : CutI w L A c wr) {r : RowB} (hb : Below wr.heap.size wr w2)
    (ho : w2.ownsRow wr.heap.size 5 1 (.slice r.A r.n r.c) r.n (r.bs.map bv))
    (ho3 : w3.ownsRow w.heap.size 26 1 (.slice A3 (L.length + 1) c3) (L.length + 1) (L.map RowB.v ++ [r.v])) (hg : (w2.alloc (.cells #[r.v] 26)).grownBy w3 (Value.slice A L.length c).ownBlock) (hb3 : Below w.heap.size (w2.alloc (.cells #[r.v] 26)) w3) :
    CutI w (L ++ [r]) A3 c3 w3 where
  own := by
    rw [List.map_append, List.length_append]
    exact ho3
  rows := ((h.rows.push hb h.below.size ho).below ((Below.refl _ _).alloc (Nat.le_refl _) _)).grown hg ((own_via h.own hb).alloc _) rowNe
  below := ((h.below.via hb).alloc (h.below.via hb).size _).trans hb3
theorem frmCutNo (A : Option Addr) (n c : Nat) (room : Int) (w : World) (hno : room < 8 ∨ 65535 < room) :
    Calls Try.prog 11 #[.slice A n c, .int .i64 room] w fun e w' => e = .returned (.tuple #[.slice none 0 0, .int .i64 2]) ∧ w' = w := by
  by_cases h1 : room < 8
  · go_enter Try.func11, Try.ntmps11
    go_wp2
    first | go_ret2 | go_ret
    exact ⟨rfl, rfl⟩
  · have h2 : 65535 < room := by omega
    go_enter Try.func11, Try.ntmps11
    go_wp2
    first | go_ret2 | go_ret
    exact ⟨rfl, rfl⟩
def lenV : Value → Nat
  | .slice _ n _ => n
  | _ => 0
theorem and2_low {m : Nat} (h : m ≤ 1) : bits .and .u8 (m : Int) 2 = 0 := by
  have : m = 0 ∨ m = 1 := by omega
  rcases this with rfl | rfl <;> decide
theorem or2_low {m : Nat} (h : m ≤ 1) : bits .or .u8 (m : Int) 2 = ((m + 2 : Nat) : Int) := by
  have : m = 0 ∨ m = 1 := by omega
  rcases this with rfl | rfl <;> decide
theorem and2_high {m : Nat} (h : m ≤ 1) : bits .and .u8 ((m : Int) + 2) 2 = 2 := by
  have : m = 0 ∨ m = 1 := by omega
  rcases this with rfl | rfl <;> decide
set_option maxHeartbeats 2000000 in
theorem frmCut (A : Option Addr) (n c : Nat) (b : List UInt8) (R : Nat) (w : World) (h : Rd w w.heap.size A (b.map bv)) (hl : b.length = n) (hc : n ≤ c) (hcm : c ≤ maxLen) (hn : n ≤ 1000000) (hR : 8 ≤ R ∧ R ≤ 65535) :
    Calls Try.prog 11 #[.slice A n c, .int .i64 (R : Int)] w (NewR (Frm.cutF R 1 0#32 b) 0 w) := by
  have HRD := Lib.hid h
  have HL := Lib.hid hl
  unfold maxLen at hcm
  obtain ⟨hR1, hR2⟩ := hR
  clear h hl
  go_enter Try.func11, Try.ntmps11
  go_wp2
  go_loopw [0, 6, 7, 8, 9] (fun x o m s _ wr => ∃ (mk : Nat) (t : BitVec 32) (b' : List UInt8) (Ab : Option Addr) (nb cb : Nat) (L : List RowB) (Ao : Option Addr) (no co : Nat), x = .slice Ab nb cb ∧ o = .slice Ao no co ∧ m = .int .u8 mk ∧ s = .int .u32 (t.toNat : Int) ∧ mk ≤ 1 ∧ nb ≤ cb ∧ cb ≤ 9223372036854775807 ∧ no + nb ≤ n ∧ Hid (no = L.length) ∧ Hid (b'.length = nb) ∧ Hid (Rd w w.heap.size Ab (b'.map bv)) ∧ Hid (L.map (·.bs) ++ Frm.cutF R mk t b' = Frm.cutF R 1 0#32 b) ∧ Hid (CutI w L Ao co wr)) (fun x _ _ _ _ _ => lenV x)
  case atStart => exact ⟨1, 0#32, b, A, n, c, [], none, 0, 0, rfl, rfl, rfl, rfl, Nat.le_refl _, hc, hcm, by omega, Lib.hid rfl, HL, HRD, Lib.hid rfl, Lib.hid (CutI.nil w)⟩
  case round =>
    obtain ⟨mk, t, b', Ab, nb, cb, L, Ao, no, co, rfl, rfl, rfl, rfl, hmk, hnc, hcm', hnb, HNO, HL', HRD', HD, HI⟩ := hrel
    have HOW : Hid (wr.ownsRow w.heap.size 26 1 (.slice Ao no co) no (L.map RowB.v)) := Lib.hid (by rw [HNO.out]; exact HI.out.own)
    have hand0 := and2_low hmk
    have hor := or2_low hmk
    have hand2 := and2_high hmk
    have hsz := HI.out.below.size
    by_cases hm : R - 7 < nb
    · have e7 : ((R - 7 : Nat) : Int) = (R : Int) - 7 := by omega
      have hsl := fun V : World => run_cut_from (P := Try.prog) 26 5 Try.underlying26 sizeByte Ab nb cb (R - 7) .i64 (by omega) V
      rw [e7] at hsl
      have HT : Hid ((b'.take (R - 7)).length = R - 7) := Lib.hid (by rw [List.length_take, HL'.out]; omega)
      have HRT := Lib.hid fun W (hb : Below w.heap.size w W) => (by
        have := ((HRD'.out.below hb).more hb.size).take (R - 7)
        rw [← List.map_take] at this
        exact this : Rd W W.heap.size Ab ((b'.take (R - 7)).map bv))
      have HST := Lib.hid (Frm.cutF_more (room := R) (mark := mk) (s := t) (b := b') (by rw [HL'.out]; omega))
      have HRN : Hid (Rd w w.heap.size (cut Ab cb (R - 7)) ((b'.drop (R - 7)).map bv)) := Lib.hid (by
        rw [List.map_drop]
        exact HRD'.out.cut (by rw [List.length_map, HL'.out]; omega) (by rw [List.length_map, HL'.out]; exact hnc))
      have HLN : Hid ((b'.drop (R - 7)).length = nb - (R - 7)) := Lib.hid (by rw [List.length_drop, HL'.out])
      go_wp2_with fail
      refine (frmSummed t mk Ab (R - 7) cb (b'.take (R - 7)) wr (by omega) (HRT.out wr HI.out.below) HT.out (by omega)).mono ?_
      rintro e w2 ⟨rfl, hb2⟩
      have HI2 := Lib.hid (HI.out.via hb2)
      clear hb2
      go_wp2_with fail
      refine (frmPiece (Frm.sum t mk (b'.take (R - 7))) mk Ab (R - 7) cb (b'.take (R - 7)) w2 (by omega) (HRT.out w2 HI2.out.below) HT.out (by omega)).mono ?_
      rintro e w3 ⟨A3, n3, c3, rfl, hl3, ho3, hb3⟩
      have HPU := Lib.hid fun A4 c4 w4 ho4 hg4 hb4 => HI2.out.push (r := ⟨A3, n3, c3, Frm.pc mk (b'.take (R - 7)) (Frm.sum t mk (b'.take (R - 7)))⟩) (w2 := w3) (w3 := w4) (A3 := A4) (c3 := c4) hb3 ho3 ho4 hg4 hb4
      have HOW2 : Hid (w3.ownsRow w.heap.size 26 1 (.slice Ao no co) no (L.map RowB.v)) := Lib.hid (by rw [HNO.out]; exact own_via HI2.out.own hb3)
      have hsz3 : w.heap.size ≤ w3.heap.size := Nat.le_trans HI2.out.below.size hb3.size
      clear hl3 ho3 hb3 HOW
      rw [← HNO.out] at HPU
      go_wp2_with (at_builtin; go_loud (refine appR _ rfl (.tmp 33) (.tmp 40) rfl w.heap.size Ao no co (L.map RowB.v) rfl (HOW2.out.alloc _) _ (some ⟨w3.heap.size, 0, none⟩) 1 1 [.slice A3 n3 c3] rfl rfl (Rd.new w3 _ _ _ rfl) (one_rows (L := [⟨A3, n3, c3, []⟩])) (by omega) (by simp; omega) ?_; intro A4 c4 w4 ho4 hg4 hb4; have HI4 := Lib.hid (HPU.out A4 c4 w4 ho4 hg4 hb4); clear ho4 hg4 hb4))
      have HD2 : Hid ((L ++ [(⟨A3, n3, c3, Frm.pc mk (b'.take (R - 7)) (Frm.sum t mk (b'.take (R - 7)))⟩ : RowB)]).map (·.bs) ++ Frm.cutF R 0 (Frm.sum t mk (b'.take (R - 7))) (b'.drop (R - 7)) = Frm.cutF R 1 0#32 b) := Lib.hid (by rw [← HD.out, HST.out]; simp)
      have HNO2 : Hid (no + 1 = (L ++ [(⟨A3, n3, c3, Frm.pc mk (b'.take (R - 7)) (Frm.sum t mk (b'.take (R - 7)))⟩ : RowB)]).length) := Lib.hid (by rw [List.length_append, ← HNO.out]; rfl)
      refine wp_region_held_drew (S := (fun _ => True)) (by kernel_rfl) trivial (fun _ => ?_)
      refine wpAnyH_take (i := 0) (v := ?_) rfl (by kernel_rfl) (by kernel_rfl) (by kernel_rfl) (fun _ _ _ h => h) (Or.inl ⟨by rfl, ?_⟩) trivial ?_
      rotate_left
      · intro wS hSw
        go_simp
        try with_reducible rfl
      try simp only [List.getElem_toArray, List.getElem_cons_zero, List.getElem_cons_succ, Act.put, List.setIfInBounds_toArray, List.set_cons_zero, List.set_cons_succ]
      refine wpAnyH_take (i := 1) (v := ?_) rfl (by kernel_rfl) (by kernel_rfl) (by kernel_rfl) (fun _ _ _ h => h) (Or.inl ⟨by rfl, ?_⟩) trivial ?_
      rotate_left
      · intro wS hSw
        go_simp
        try with_reducible rfl
      try simp only [List.getElem_toArray, List.getElem_cons_zero, List.getElem_cons_succ, Act.put, List.setIfInBounds_toArray, List.set_cons_zero, List.set_cons_succ]
      refine wpAnyH_take (i := 2) (v := ?_) rfl (by kernel_rfl) (by kernel_rfl) (by kernel_rfl) (fun _ _ _ h => h) (Or.inl ⟨by rfl, ?_⟩) trivial ?_
      rotate_left
      · intro wS hSw
        go_simp
        try with_reducible rfl
      try simp only [List.getElem_toArray, List.getElem_cons_zero, List.getElem_cons_succ, Act.put, List.setIfInBounds_toArray, List.set_cons_zero, List.set_cons_succ]
      refine wpAnyH_take (i := 3) (v := ?_) rfl (by kernel_rfl) (by kernel_rfl) (by kernel_rfl) (fun _ _ _ h => h) (Or.inl ⟨by rfl, ?_⟩) trivial ?_
      rotate_left
      · intro wS hSw
        go_simp
        try with_reducible rfl
      try simp only [List.getElem_toArray, List.getElem_cons_zero, List.getElem_cons_succ, Act.put, List.setIfInBounds_toArray, List.set_cons_zero, List.set_cons_succ]
      refine wpAnyH_take (i := 4) (v := ?_) rfl (by kernel_rfl) (by kernel_rfl) (by kernel_rfl) (fun _ _ _ h => h) (Or.inl ⟨by rfl, ?_⟩) trivial ?_
      rotate_left
      · intro wS hSw
        go_simp
        try with_reducible rfl
      try simp only [List.getElem_toArray, List.getElem_cons_zero, List.getElem_cons_succ, Act.put, List.setIfInBounds_toArray, List.set_cons_zero, List.set_cons_succ]
      refine wpAnyH_done (by kernel_rfl) ?_ _
      go_wp2
      go_roundw
      case rel => exact ⟨0, _, _, _, _, _, L ++ [⟨A3, n3, c3, Frm.pc mk (b'.take (R - 7)) (Frm.sum t mk (b'.take (R - 7)))⟩], A4, no + 1, c4, rfl, rfl, rfl, rfl, by omega, by omega, by omega, by omega, HNO2, HLN, HRN, HD2, Lib.hid (HI4.out.via (below_drewN (Below.refl _ _) 1))⟩
      case measure => simp [lenV]; omega
    · have HST := Lib.hid (Frm.cutF_last (room := R) (mark := mk) (s := t) (b := b') (by rw [HL'.out]; omega))
      have hle : nb ≤ R - 7 := by omega
      have HRT := Lib.hid fun W (hb : Below w.heap.size w W) => ((HRD'.out.below hb).more hb.size)
      go_wp2_with fail
      refine (frmSummed t (mk + 2) Ab nb cb b' wr (by omega) (HRT.out wr HI.out.below) HL'.out (by omega)).mono ?_
      rintro e w2 ⟨rfl, hb2⟩
      have HI2 := Lib.hid (HI.out.via hb2)
      clear hb2
      go_wp2_with fail
      refine (frmPiece (Frm.sum t (mk + 2) b') (mk + 2) Ab nb cb b' w2 (by omega) (HRT.out w2 HI2.out.below) HL'.out (by omega)).mono ?_
      rintro e w3 ⟨A3, n3, c3, rfl, hl3, ho3, hb3⟩
      have HPU := Lib.hid fun A4 c4 w4 ho4 hg4 hb4 => HI2.out.push (r := ⟨A3, n3, c3, Frm.pc (mk + 2) b' (Frm.sum t (mk + 2) b')⟩) (w2 := w3) (w3 := w4) (A3 := A4) (c3 := c4) hb3 ho3 ho4 hg4 hb4
      have HOW2 : Hid (w3.ownsRow w.heap.size 26 1 (.slice Ao no co) no (L.map RowB.v)) := Lib.hid (by rw [HNO.out]; exact own_via HI2.out.own hb3)
      have hsz3 : w.heap.size ≤ w3.heap.size := Nat.le_trans HI2.out.below.size hb3.size
      clear hl3 ho3 hb3 HOW
      rw [← HNO.out] at HPU
      go_wp2_with (at_builtin; go_loud (refine appR _ rfl (.tmp 33) (.tmp 40) rfl w.heap.size Ao no co (L.map RowB.v) rfl (HOW2.out.alloc _) _ (some ⟨w3.heap.size, 0, none⟩) 1 1 [.slice A3 n3 c3] rfl rfl (Rd.new w3 _ _ _ rfl) (one_rows (L := [⟨A3, n3, c3, []⟩])) (by omega) (by simp; omega) ?_; intro A4 c4 w4 ho4 hg4 hb4; have HI4 := Lib.hid (HPU.out A4 c4 w4 ho4 hg4 hb4); clear ho4 hg4 hb4))
      first | go_ret2 | go_ret
      refine ⟨A4, no + 1, c4, L ++ [⟨A3, n3, c3, Frm.pc (mk + 2) b' (Frm.sum t (mk + 2) b')⟩], rfl, ?_, ?_, ?_, HI4.out.rows, HI4.out.below⟩
      · rw [← HD.out, HST.out]
        simp
      · rw [List.length_append, ← HNO.out]
        rfl
      · have := HI4.out.own
        rw [List.length_append, ← HNO.out] at this
        exact this
end Cib
