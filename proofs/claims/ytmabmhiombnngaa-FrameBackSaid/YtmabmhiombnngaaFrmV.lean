/- The document's Same of two like records. -/
import Derived.Test.YtmabmhiombnngaaFrmU
set_option linter.unusedVariables false
set_option linter.unusedSimpArgs false
set_option maxRecDepth 40000
namespace Cib
open Go Go.RowKit Go.Proofs
set_option maxHeartbeats 2000000 in
theorem refSameB (pl : List Int) (gen : Nat) (siz : Int) (A1 A2 : Option Addr) (n k1 k2 : Nat) (w : World) (h1 : Rd w w.heap.size A1 (pl.map (Value.int .i64))) (h2 : Rd w w.heap.size A2 (pl.map (Value.int .i64))) (hl : pl.length = n) (hn : n ≤ 140737488355328) :
    Calls Try.prog 30 #[.agg #[.slice A1 n k1, .int .u64 (gen : Int), .int .i64 siz], .agg #[.slice A2 n k2, .int .u64 (gen : Int), .int .i64 siz]] w fun e w' => e = .returned (.bool true) ∧ Below w.heap.size w w' := by
  have HB0 := Lib.hid (((Below.refl w.heap.size w).alloc (Nat.le_refl _) (.cells #[.slice A1 n k1, .int .u64 (gen : Int), .int .i64 siz] 55)).alloc (by simp) (.cells #[.slice A2 n k2, .int .u64 (gen : Int), .int .i64 siz] 55))
  have HX0 := Lib.hid ((Blk.new w 55 #[.slice A1 n k1, .int .u64 (gen : Int), .int .i64 siz]).alloc (.cells #[.slice A2 n k2, .int .u64 (gen : Int), .int .i64 siz] 55))
  have HY0 : Hid (Blk ((w.alloc (.cells #[.slice A1 n k1, .int .u64 (gen : Int), .int .i64 siz] 55)).alloc (.cells #[.slice A2 n k2, .int .u64 (gen : Int), .int .i64 siz] 55)) (w.heap.size + 1) 55 #[.slice A2 n k2, .int .u64 (gen : Int), .int .i64 siz]) := Lib.hid (by
    have := Blk.new (w.alloc (.cells #[.slice A1 n k1, .int .u64 (gen : Int), .int .i64 siz] 55)) 55 #[.slice A2 n k2, .int .u64 (gen : Int), .int .i64 siz]
    simpa using this)
  have H1 := Lib.hid h1
  have H2 := Lib.hid h2
  have HL := Lib.hid hl
  clear h1 h2 hl
  go_enter Try.func30, Try.ntmps30
  go_wp2
  go_loopw [5] (fun i wr => ∃ p : Nat, i = .int .i64 p ∧ p ≤ n ∧ Hid (Below w.heap.size w wr) ∧ Hid (Blk wr w.heap.size 55 #[.slice A1 n k1, .int .u64 (gen : Int), .int .i64 siz]) ∧ Hid (Blk wr (w.heap.size + 1) 55 #[.slice A2 n k2, .int .u64 (gen : Int), .int .i64 siz])) (fun i _ => n - (intOf i).toNat)
  case atStart => exact ⟨0, rfl, Nat.zero_le _, HB0, HX0, HY0⟩
  case round =>
    clear HB0 HX0 HY0
    obtain ⟨p, rfl, hp, HB, HX, HY⟩ := hrel
    have x0 := HX.out.cell 0
    have y0 := HY.out.cell 0
    simp only [List.getElem?_toArray, List.getElem?_cons_zero] at x0 y0
    by_cases hlt : p < n
    · have hpl : p < pl.length := by rw [HL.out]; exact hlt
      obtain ⟨ad1, rfl, hb1, hc1⟩ := rd_i64 (H1.out.below HB.out) hpl
      obtain ⟨ad2, rfl, hb2, hc2⟩ := rd_i64 (H2.out.below HB.out) hpl
      generalize pl[p] = v at *
      have hsz := HB.out.size
      have hx := HX.out.lt
      have hy := HY.out.lt
      have q1 : wr.drew.cell? (ad1.add p) = some (.int .i64 v) := hc1
      have q2 : wr.drew.cell? (ad2.add p) = some (.int .i64 v) := hc2
      have q3 : wr.drew.cell? ⟨w.heap.size, 0, none⟩ = some (.slice (some ad1) n k1) := x0
      have q4 : wr.drew.cell? ⟨w.heap.size + 1, 0, none⟩ = some (.slice (some ad2) n k2) := y0
      have hb1' : (ad1.add p).block < wr.heap.size := by rw [addr_add_block]; omega
      have hb2' : (ad2.add p).block < wr.heap.size := by rw [addr_add_block]; omega
      have HB3 := Lib.hid (below_drewN HB.out 1)
      have HX3 := Lib.hid (HX.out.drewN 1)
      have HY3 := Lib.hid (HY.out.drewN 1)
      clear hpl hc1 hc2
      go_wp2
      refine wp_region_held_drew (S := (fun wQq => Below (World.heap (wr.drew)).size (wr.drew) wQq)) (by kernel_rfl) (by exact Below.refl _ _) (fun _ => ?_)
      refine wpAnyH_take (i := 0) (v := ?_) rfl (by kernel_rfl) (by kernel_rfl) (by kernel_rfl) (fun _ _ _ h => h) (Or.inl ⟨by rfl, ?_⟩) (Below.refl _ _) ?_
      rotate_left
      · intro wS hSw
        go_simp
        try with_reducible rfl
      try simp only [List.getElem_toArray, List.getElem_cons_zero, List.getElem_cons_succ, Act.put, List.setIfInBounds_toArray, List.set_cons_zero, List.set_cons_succ]
      refine wpAnyH_take (i := 2) (v := ?_) rfl (by kernel_rfl) (by kernel_rfl) (by kernel_rfl) (fun _ _ _ h => h) (Or.inl ⟨by rfl, ?_⟩) (Below.refl _ _) ?_
      rotate_left
      · intro wS hSw
        go_simp
        try with_reducible rfl
      try simp only [List.getElem_toArray, List.getElem_cons_zero, List.getElem_cons_succ, Act.put, List.setIfInBounds_toArray, List.set_cons_zero, List.set_cons_succ]
      refine wpAnyH_take (i := 5) (v := ?_) rfl (by kernel_rfl) (by kernel_rfl) (by kernel_rfl) (fun _ _ _ h => h) (Or.inl ⟨by rfl, ?_⟩) (Below.refl _ _) ?_
      rotate_left
      · intro wS hSw
        go_simp
        try with_reducible rfl
      try simp only [List.getElem_toArray, List.getElem_cons_zero, List.getElem_cons_succ, Act.put, List.setIfInBounds_toArray, List.set_cons_zero, List.set_cons_succ]
      refine wpAnyH_take (i := 7) (v := ?_) rfl (by kernel_rfl) (by kernel_rfl) (by kernel_rfl) (fun _ _ _ h => h) (Or.inl ⟨by rfl, ?_⟩) (Below.refl _ _) ?_
      rotate_left
      · intro wS hSw
        go_simp
        try with_reducible rfl
      try simp only [List.getElem_toArray, List.getElem_cons_zero, List.getElem_cons_succ, Act.put, List.setIfInBounds_toArray, List.set_cons_zero, List.set_cons_succ]
      refine wpAnyH_take (i := 1) (v := ?_) rfl (by kernel_rfl) (by kernel_rfl) (by kernel_rfl) (fun _ _ _ h => h) (Or.inl ⟨by rfl, ?_⟩) (Below.refl _ _) ?_
      rotate_left
      · intro wS hSw
        have hcv := ((hSw.cell (p := ⟨w.heap.size, 0, none⟩) (by exact hx)).trans q3)
        go_simp
        try with_reducible rfl
      try simp only [List.getElem_toArray, List.getElem_cons_zero, List.getElem_cons_succ, Act.put, List.setIfInBounds_toArray, List.set_cons_zero, List.set_cons_succ]
      refine wpAnyH_take (i := 3) (v := ?_) rfl (by kernel_rfl) (by kernel_rfl) (by kernel_rfl) (fun _ _ _ h => h) (Or.inl ⟨by rfl, ?_⟩) (Below.refl _ _) ?_
      rotate_left
      · intro wS hSw
        go_simp
        try with_reducible rfl
      try simp only [List.getElem_toArray, List.getElem_cons_zero, List.getElem_cons_succ, Act.put, List.setIfInBounds_toArray, List.set_cons_zero, List.set_cons_succ]
      refine wpAnyH_take (i := 4) (v := ?_) rfl (by kernel_rfl) (by kernel_rfl) (by kernel_rfl) (fun _ _ _ h => h) (Or.inl ⟨by rfl, ?_⟩) (Below.refl _ _) ?_
      rotate_left
      · intro wS hSw
        have hcv := ((hSw.cell (p := ad1.add p) (by exact hb1')).trans q1)
        go_simp
        try with_reducible rfl
      try simp only [List.getElem_toArray, List.getElem_cons_zero, List.getElem_cons_succ, Act.put, List.setIfInBounds_toArray, List.set_cons_zero, List.set_cons_succ]
      refine wpAnyH_take (i := 6) (v := ?_) rfl (by kernel_rfl) (by kernel_rfl) (by kernel_rfl) (fun _ _ _ h => h) (Or.inl ⟨by rfl, ?_⟩) (Below.refl _ _) ?_
      rotate_left
      · intro wS hSw
        have hcv := ((hSw.cell (p := ⟨w.heap.size + 1, 0, none⟩) (by exact hy)).trans q4)
        go_simp
        try with_reducible rfl
      try simp only [List.getElem_toArray, List.getElem_cons_zero, List.getElem_cons_succ, Act.put, List.setIfInBounds_toArray, List.set_cons_zero, List.set_cons_succ]
      refine wpAnyH_take (i := 8) (v := ?_) rfl (by kernel_rfl) (by kernel_rfl) (by kernel_rfl) (fun _ _ _ h => h) (Or.inl ⟨by rfl, ?_⟩) (Below.refl _ _) ?_
      rotate_left
      · intro wS hSw
        go_simp
        try with_reducible rfl
      try simp only [List.getElem_toArray, List.getElem_cons_zero, List.getElem_cons_succ, Act.put, List.setIfInBounds_toArray, List.set_cons_zero, List.set_cons_succ]
      refine wpAnyH_take (i := 9) (v := ?_) rfl (by kernel_rfl) (by kernel_rfl) (by kernel_rfl) (fun _ _ _ h => h) (Or.inl ⟨by rfl, ?_⟩) (Below.refl _ _) ?_
      rotate_left
      · intro wS hSw
        have hcv := ((hSw.cell (p := ad2.add p) (by exact hb2')).trans q2)
        go_simp
        try with_reducible rfl
      try simp only [List.getElem_toArray, List.getElem_cons_zero, List.getElem_cons_succ, Act.put, List.setIfInBounds_toArray, List.set_cons_zero, List.set_cons_succ]
      refine wpAnyH_take (i := 10) (v := ?_) rfl (by kernel_rfl) (by kernel_rfl) (by kernel_rfl) (fun _ _ _ h => h) (Or.inl ⟨by rfl, ?_⟩) (Below.refl _ _) ?_
      rotate_left
      · intro wS hSw
        go_simp
        try with_reducible rfl
      try simp only [List.getElem_toArray, List.getElem_cons_zero, List.getElem_cons_succ, Act.put, List.setIfInBounds_toArray, List.set_cons_zero, List.set_cons_succ]
      refine wpAnyH_done (by kernel_rfl) ?_ _
      go_wp2
      go_roundw
      case rel => exact ⟨p + 1, by go_num, hlt, HB3, HX3, HY3⟩
      case measure => simp [intOf]; omega
    · obtain rfl : p = n := by omega
      go_wp2
      go_ret
      exact ⟨rfl, HB.out⟩
theorem cg_at2 {w wS : World} {b off : Nat} {k d s g z : Value} (hb : b < w.heap.size) (hS : Below w.heap.size w wS) (h0 : w.cell? ⟨b, off, none⟩ = some k) (h1 : w.cell? ⟨b, off + 1, none⟩ = some d) (h2 : w.cell? ⟨b, off + 2, none⟩ = some s) (h3 : w.cell? ⟨b, off + 3, none⟩ = some g) (h4 : w.cell? ⟨b, off + 4, none⟩ = some z) :
    wS.cell? ⟨b, off, none⟩ = some k ∧ wS.cell? ⟨b, off + 1, none⟩ = some d ∧ wS.cell? ⟨b, off + 2, none⟩ = some s ∧ wS.cell? ⟨b, off + 3, none⟩ = some g ∧ wS.cell? ⟨b, off + 4, none⟩ = some z :=
  ⟨(hS.cell (p := ⟨b, _, none⟩) hb).trans h0, (hS.cell (p := ⟨b, _, none⟩) hb).trans h1, (hS.cell (p := ⟨b, _, none⟩) hb).trans h2, (hS.cell (p := ⟨b, _, none⟩) hb).trans h3, (hS.cell (p := ⟨b, _, none⟩) hb).trans h4⟩
set_option maxHeartbeats 4000000 in
theorem refSameR (st : Nat) (A1 A2 : Option Addr) (n k1 k2 : Nat) (X Y : List CgM) (w : World) (h1 : Rd w w.heap.size A1 (X.map CgM.row).flatten) (h2 : Rd w w.heap.size A2 (Y.map CgM.row).flatten) (hX : ∀ x ∈ X, x.At w w.heap.size) (hY : ∀ x ∈ Y, x.At w w.heap.size) (hl : X.length = n) (hXY : X.map (·.c) = Y.map (·.c)) (hn : n ≤ 140737488355328) :
    Calls Try.prog 14 #[.agg #[.int .u64 (st : Int), .slice A1 n k1], .agg #[.int .u64 (st : Int), .slice A2 n k2]] w fun e w' => e = .returned (.bool true) ∧ Below w.heap.size w w' := by
  have HB0 := Lib.hid (((Below.refl w.heap.size w).alloc (Nat.le_refl _) (.cells #[.int .u64 (st : Int), .slice A1 n k1] 25)).alloc (by simp) (.cells #[.int .u64 (st : Int), .slice A2 n k2] 25))
  have HX0 := Lib.hid ((Blk.new w 25 #[.int .u64 (st : Int), .slice A1 n k1]).alloc (.cells #[.int .u64 (st : Int), .slice A2 n k2] 25))
  have HY0 : Hid (Blk ((w.alloc (.cells #[.int .u64 (st : Int), .slice A1 n k1] 25)).alloc (.cells #[.int .u64 (st : Int), .slice A2 n k2] 25)) (w.heap.size + 1) 25 #[.int .u64 (st : Int), .slice A2 n k2]) := Lib.hid (by
    have := Blk.new (w.alloc (.cells #[.int .u64 (st : Int), .slice A1 n k1] 25)) 25 #[.int .u64 (st : Int), .slice A2 n k2]
    simpa using this)
  have hl2 : Y.length = n := by
    have := congrArg List.length hXY
    simp at this
    omega
  have H1 := Lib.hid h1
  have H2 := Lib.hid h2
  have HXA := Lib.hid hX
  have HYA := Lib.hid hY
  have HL := Lib.hid hl
  have HL2 := Lib.hid hl2
  have HXY := Lib.hid hXY
  clear h1 h2 hl hl2 hX hY hXY
  go_enter Try.func14, Try.ntmps14
  go_wp2
  go_loopw [5] (fun i wr => ∃ p : Nat, i = .int .i64 p ∧ p ≤ n ∧ Hid (Below w.heap.size w wr) ∧ Hid (Blk wr w.heap.size 25 #[.int .u64 (st : Int), .slice A1 n k1]) ∧ Hid (Blk wr (w.heap.size + 1) 25 #[.int .u64 (st : Int), .slice A2 n k2])) (fun i _ => n - (intOf i).toNat)
  case atStart => exact ⟨0, rfl, Nat.zero_le _, HB0, HX0, HY0⟩
  case round =>
    clear HB0 HX0 HY0
    obtain ⟨p, rfl, hp, HB, HX, HY⟩ := hrel
    have x0 := HX.out.cell 1
    have y0 := HY.out.cell 1
    simp only [List.getElem?_toArray, List.getElem?_cons_zero, List.getElem?_cons_succ] at x0 y0
    by_cases hlt : p < n
    · have hpx : p < X.length := by rw [HL.out]; exact hlt
      have hpy : p < Y.length := by rw [HL2.out]; exact hlt
      obtain ⟨b1, o1, rfl, hb1, m0, m1, m2, m3, m4⟩ := cg_at (H1.out.below HB.out) hpx
      obtain ⟨b2, o2, rfl, hb2, n0, n1, n2, n3, n4⟩ := cg_at (H2.out.below HB.out) hpy
      have hcc : X[p].c = Y[p].c := by
        have := congrArg (fun l : List Frm.Chg => l[p]?) HXY.out
        simpa [hpx, hpy] using this
      have hXp := (HXA.out _ (List.getElem_mem hpx)).below HB.out
      have hYp := (HYA.out _ (List.getElem_mem hpy)).below HB.out
      generalize X[p] = x at *
      generalize Y[p] = y at *
      obtain ⟨⟨key, dead, ⟨pl, gen, siz⟩⟩, xA, xn, xk⟩ := x
      obtain ⟨c', yA, yn, yk⟩ := y
      simp only at hcc
      subst hcc
      simp only at m0 m1 m2 m3 m4 n0 n1 n2 n3 n4
      obtain ⟨u1, u2, u3, u4, u5, u6⟩ := hXp
      obtain ⟨v1, v2, v3, v4, v5, v6⟩ := hYp
      simp only at u1 u2 u3 v1 v2 v3
      obtain rfl : xn = yn := by omega
      have hsz := HB.out.size
      have hx := HX.out.lt
      have hy := HY.out.lt
      have q3 : wr.drew.cell? ⟨w.heap.size, 1, none⟩ = some (.slice (some ⟨b1, o1, none⟩) n k1) := x0
      have q4 : wr.drew.cell? ⟨w.heap.size + 1, 1, none⟩ = some (.slice (some ⟨b2, o2, none⟩) n k2) := y0
      have HM := Lib.hid fun wS (h : Below wr.drew.heap.size wr.drew wS) => cg_at2 (w := wr.drew) (show b1 < wr.heap.size by omega) h m0 m1 m2 m3 m4
      have HN := Lib.hid fun wS (h : Below wr.drew.heap.size wr.drew wS) => cg_at2 (w := wr.drew) (show b2 < wr.heap.size by omega) h n0 n1 n2 n3 n4
      have HWD := Lib.hid (Below.refl wr.drew.heap.size wr.drew)
      have HW1 : Hid (Below wr.drew.heap.size wr.drew (wr.alloc (.cells #[.string ⟨#[]⟩, .bool false, .slice none 0 0, .int .u64 0, .int .i64 0] 57)).drew) := Lib.hid (HWD.out.alloc (Nat.le_refl _) (.cells #[.string ⟨#[]⟩, .bool false, .slice none 0 0, .int .u64 0, .int .i64 0] 57))
      have HW2 : Hid (Below wr.drew.heap.size wr.drew ((wr.alloc (.cells #[.string ⟨#[]⟩, .bool false, .slice none 0 0, .int .u64 0, .int .i64 0] 57)).alloc (.cells #[.string ⟨#[]⟩, .bool false, .slice none 0 0, .int .u64 0, .int .i64 0] 57)).drew) := Lib.hid (HW1.out.alloc (by simp) (.cells #[.string ⟨#[]⟩, .bool false, .slice none 0 0, .int .u64 0, .int .i64 0] 57))
      have HZ1 : Hid (Blk ((wr.alloc (.cells #[.string ⟨#[]⟩, .bool false, .slice none 0 0, .int .u64 0, .int .i64 0] 57)).alloc (.cells #[.string ⟨#[]⟩, .bool false, .slice none 0 0, .int .u64 0, .int .i64 0] 57)).drew wr.heap.size 57 #[.string ⟨#[]⟩, .bool false, .slice none 0 0, .int .u64 0, .int .i64 0]) := Lib.hid ((Blk.new wr.drew 57 #[.string ⟨#[]⟩, .bool false, .slice none 0 0, .int .u64 0, .int .i64 0]).alloc (.cells #[.string ⟨#[]⟩, .bool false, .slice none 0 0, .int .u64 0, .int .i64 0] 57))
      have HZ2 : Hid (Blk ((wr.alloc (.cells #[.string ⟨#[]⟩, .bool false, .slice none 0 0, .int .u64 0, .int .i64 0] 57)).alloc (.cells #[.string ⟨#[]⟩, .bool false, .slice none 0 0, .int .u64 0, .int .i64 0] 57)).drew (wr.heap.size + 1) 57 #[.string ⟨#[]⟩, .bool false, .slice none 0 0, .int .u64 0, .int .i64 0]) := Lib.hid (by
        have := Blk.new (wr.alloc (.cells #[.string ⟨#[]⟩, .bool false, .slice none 0 0, .int .u64 0, .int .i64 0] 57)) 57 #[.string ⟨#[]⟩, .bool false, .slice none 0 0, .int .u64 0, .int .i64 0]
        have h2 : (wr.alloc (.cells #[.string ⟨#[]⟩, .bool false, .slice none 0 0, .int .u64 0, .int .i64 0] 57)).heap.size = wr.heap.size + 1 := by simp
        rw [h2] at this
        exact this)
      have HSB := Lib.hid fun (W : World) (h : Below wr.drew.heap.size wr.drew W) => refSameB pl gen siz xA yA xn xk yk W ((u1.below ((below_drewN (Below.refl w.heap.size wr) 1 : Below w.heap.size wr wr.drew).trans (h.mono hsz))).more (Nat.le_trans hsz h.size)) ((v1.below ((below_drewN (Below.refl w.heap.size wr) 1 : Below w.heap.size wr wr.drew).trans (h.mono hsz))).more (Nat.le_trans hsz h.size)) u2 u3
      have HB3 := Lib.hid fun (W : World) (h : Below wr.drew.heap.size wr.drew W) => (below_drewN HB.out 1).trans (h.mono hsz)
      have HX5 := Lib.hid fun (W : World) (h : Below wr.drew.heap.size wr.drew W) => (HX.out.drewN 1).below h hx
      have HY5 := Lib.hid fun (W : World) (h : Below wr.drew.heap.size wr.drew W) => (HY.out.drewN 1).below h hy
      clear hpx hpy m0 m1 m2 m3 m4 n0 n1 n2 n3 n4 u1 u2 u3 u4 u5 u6 v1 v2 v3 v4 v5 v6
      go_wp2
      refine wp_region_held_drew (S := (fun wQq => Below wr.drew.heap.size wr.drew wQq)) (by kernel_rfl) (HWD.out) (fun _ => ?_)
      refine wpAnyH_take (i := 0) (v := ?_) rfl (by kernel_rfl) (by kernel_rfl) (by kernel_rfl) (fun _ _ _ h => h) (Or.inl ⟨by rfl, ?_⟩) (HWD.out) ?_
      rotate_left
      · intro wS hSw
        go_simp
        try with_reducible rfl
      try simp only [List.getElem_toArray, List.getElem_cons_zero, List.getElem_cons_succ, Act.put, List.setIfInBounds_toArray, List.set_cons_zero, List.set_cons_succ]
      refine wpAnyH_take (i := 2) (v := ?_) rfl (by kernel_rfl) (by kernel_rfl) (by kernel_rfl) (fun _ _ _ h => h) (Or.inl ⟨by rfl, ?_⟩) (HWD.out) ?_
      rotate_left
      · intro wS hSw
        go_simp
        try with_reducible rfl
      try simp only [List.getElem_toArray, List.getElem_cons_zero, List.getElem_cons_succ, Act.put, List.setIfInBounds_toArray, List.set_cons_zero, List.set_cons_succ]
      refine wpAnyH_take (i := 5) (v := ?_) rfl (by kernel_rfl) (by kernel_rfl) (by kernel_rfl) (fun _ _ _ h => h) (Or.inl ⟨by rfl, ?_⟩) (HWD.out) ?_
      rotate_left
      · intro wS hSw
        go_simp
        try with_reducible rfl
      try simp only [List.getElem_toArray, List.getElem_cons_zero, List.getElem_cons_succ, Act.put, List.setIfInBounds_toArray, List.set_cons_zero, List.set_cons_succ]
      refine wpAnyH_take (i := 7) (v := ?_) rfl (by kernel_rfl) (by kernel_rfl) (by kernel_rfl) (fun _ _ _ h => h) (Or.inl ⟨by rfl, ?_⟩) (HWD.out) ?_
      rotate_left
      · intro wS hSw
        go_simp
        try with_reducible rfl
      try simp only [List.getElem_toArray, List.getElem_cons_zero, List.getElem_cons_succ, Act.put, List.setIfInBounds_toArray, List.set_cons_zero, List.set_cons_succ]
      refine wpAnyH_take (i := 1) (v := ?_) rfl (by kernel_rfl) (by kernel_rfl) (by kernel_rfl) (fun _ _ _ h => h) (Or.inl ⟨by rfl, ?_⟩) (HWD.out) ?_
      rotate_left
      · intro wS hSw
        have hcv := ((hSw.cell (p := ⟨w.heap.size, 1, none⟩) (by exact hx)).trans q3)
        go_simp
        try with_reducible rfl
      try simp only [List.getElem_toArray, List.getElem_cons_zero, List.getElem_cons_succ, Act.put, List.setIfInBounds_toArray, List.set_cons_zero, List.set_cons_succ]
      refine wpAnyH_take (i := 3) (v := ?_) rfl (by kernel_rfl) (by kernel_rfl) (by kernel_rfl) (fun _ _ _ h => h) (Or.inl ⟨by rfl, ?_⟩) (HWD.out) ?_
      rotate_left
      · intro wS hSw
        go_simp
        try with_reducible rfl
      try simp only [List.getElem_toArray, List.getElem_cons_zero, List.getElem_cons_succ, Act.put, List.setIfInBounds_toArray, List.set_cons_zero, List.set_cons_succ]
      refine wpAnyH_take (i := 4) (v := ?_) rfl (by kernel_rfl) (by kernel_rfl) (by kernel_rfl) (fun _ _ _ h => h) (Or.inl ⟨by rfl, ?_⟩) (HWD.out) ?_
      rotate_left
      · intro wS hSw
        have hcv := True.intro
        obtain ⟨e0, e1, e2, e3, e4⟩ := HM.out _ hSw
        go_simp
        try with_reducible rfl
      try simp only [List.getElem_toArray, List.getElem_cons_zero, List.getElem_cons_succ, Act.put, List.setIfInBounds_toArray, List.set_cons_zero, List.set_cons_succ]
      refine wpAnyH_take (i := 6) (v := ?_) rfl (by kernel_rfl) (by kernel_rfl) (by kernel_rfl) (fun _ _ _ h => h) (Or.inl ⟨by rfl, ?_⟩) (HWD.out) ?_
      rotate_left
      · intro wS hSw
        have hcv := ((hSw.cell (p := ⟨w.heap.size + 1, 1, none⟩) (by exact hy)).trans q4)
        go_simp
        try with_reducible rfl
      try simp only [List.getElem_toArray, List.getElem_cons_zero, List.getElem_cons_succ, Act.put, List.setIfInBounds_toArray, List.set_cons_zero, List.set_cons_succ]
      refine wpAnyH_take (i := 8) (v := ?_) rfl (by kernel_rfl) (by kernel_rfl) (by kernel_rfl) (fun _ _ _ h => h) (Or.inl ⟨by rfl, ?_⟩) (HWD.out) ?_
      rotate_left
      · intro wS hSw
        go_simp
        try with_reducible rfl
      try simp only [List.getElem_toArray, List.getElem_cons_zero, List.getElem_cons_succ, Act.put, List.setIfInBounds_toArray, List.set_cons_zero, List.set_cons_succ]
      refine wpAnyH_take (i := 9) (v := ?_) rfl (by kernel_rfl) (by kernel_rfl) (by kernel_rfl) (fun _ _ _ h => h) (Or.inl ⟨by rfl, ?_⟩) (HWD.out) ?_
      rotate_left
      · intro wS hSw
        have hcv := True.intro
        obtain ⟨e0, e1, e2, e3, e4⟩ := HN.out _ hSw
        go_simp
        try with_reducible rfl
      try simp only [List.getElem_toArray, List.getElem_cons_zero, List.getElem_cons_succ, Act.put, List.setIfInBounds_toArray, List.set_cons_zero, List.set_cons_succ]
      refine wpAnyH_ready (rs := [10, 11]) (by kernel_rfl) (by simp) ?_
      refine AllReadyH.cons rfl (fun K hK => ?_) (AllReadyH.cons rfl (fun K hK => ?_) AllReadyH.nil)
      · go_simp
        refine hK.out _ _ HW1.out (fun _ => ?_)
        clear hK K
        try simp only [List.getElem_toArray, List.getElem_cons_zero, List.getElem_cons_succ, Act.put, List.setIfInBounds_toArray, List.set_cons_zero, List.set_cons_succ]
        refine wpAnyH_ready (rs := [11]) (by kernel_rfl) (by simp) ?_
        refine AllReadyH.cons rfl (fun K hK => ?_) AllReadyH.nil
        go_simp
        refine hK.out _ _ HW2.out (fun _ => ?_)
        clear hK K
        try simp only [List.getElem_toArray, List.getElem_cons_zero, List.getElem_cons_succ, Act.put, List.setIfInBounds_toArray, List.set_cons_zero, List.set_cons_succ]
        refine wpAnyH_ready (rs := [12]) (by kernel_rfl) (by simp) ?_
        refine AllReadyH.cons rfl (fun K hK => ?_) AllReadyH.nil
        refine wp_store_row 57 (.tmp 6) (.tmp 33) rfl wr.heap.size #[.string key, .bool dead, .slice xA xn xk, .int .u64 (gen : Int), .int .i64 siz] rfl rfl 57 #[.string ⟨#[]⟩, .bool false, .slice none 0 0, .int .u64 0, .int .i64 0] HZ1.out infoChg rfl (by simp [Value.oneCell']) ?_
        have HW3 := Lib.hid (below_setRow HW2.out (g := wr.heap.size) (by first | exact Nat.le_refl _ | exact Nat.le_succ _) #[.string key, .bool dead, .slice xA xn xk, .int .u64 (gen : Int), .int .i64 siz])
        have HX3 := Lib.hid (Blk.row HZ1.out #[.string key, .bool dead, .slice xA xn xk, .int .u64 (gen : Int), .int .i64 siz])
        have HY3 := Lib.hid (Blk.rowFar HZ2.out (g' := wr.heap.size) (by omega) #[.string key, .bool dead, .slice xA xn xk, .int .u64 (gen : Int), .int .i64 siz])
        refine hK.out _ _ HW3.out (fun _ => ?_)
        clear hK K
        try simp only [List.getElem_toArray, List.getElem_cons_zero, List.getElem_cons_succ, Act.put, List.setIfInBounds_toArray, List.set_cons_zero, List.set_cons_succ]
        refine wpAnyH_ready (rs := [13]) (by kernel_rfl) (by simp) ?_
        refine AllReadyH.cons rfl (fun K hK => ?_) AllReadyH.nil
        refine wp_store_row 57 (.tmp 7) (.tmp 38) rfl (wr.heap.size + 1) #[.string key, .bool dead, .slice yA xn yk, .int .u64 (gen : Int), .int .i64 siz] rfl rfl 57 #[.string ⟨#[]⟩, .bool false, .slice none 0 0, .int .u64 0, .int .i64 0] HY3.out infoChg rfl (by simp [Value.oneCell']) ?_
        have HW4 := Lib.hid (below_setRow HW3.out (g := (wr.heap.size + 1)) (by first | exact Nat.le_refl _ | exact Nat.le_succ _) #[.string key, .bool dead, .slice yA xn yk, .int .u64 (gen : Int), .int .i64 siz])
        have HX4 := Lib.hid (Blk.rowFar HX3.out (g' := (wr.heap.size + 1)) (by omega) #[.string key, .bool dead, .slice yA xn yk, .int .u64 (gen : Int), .int .i64 siz])
        have HY4 := Lib.hid (Blk.row HY3.out #[.string key, .bool dead, .slice yA xn yk, .int .u64 (gen : Int), .int .i64 siz])
        obtain ⟨c0, c1, c2, c3, c4⟩ : _ ∧ _ ∧ _ ∧ _ ∧ _ := ⟨HX4.out.cell 0, HX4.out.cell 1, HX4.out.cell 2, HX4.out.cell 3, HX4.out.cell 4⟩
        obtain ⟨d0, d1, d2, d3, d4⟩ : _ ∧ _ ∧ _ ∧ _ ∧ _ := ⟨HY4.out.cell 0, HY4.out.cell 1, HY4.out.cell 2, HY4.out.cell 3, HY4.out.cell 4⟩
        simp only [List.getElem?_toArray, List.getElem?_cons_zero, List.getElem?_cons_succ] at c0 c1 c2 c3 c4 d0 d1 d2 d3 d4
        refine hK.out _ _ HW4.out (fun _ => ?_)
        clear hK K
        try simp only [List.getElem_toArray, List.getElem_cons_zero, List.getElem_cons_succ, Act.put, List.setIfInBounds_toArray, List.set_cons_zero, List.set_cons_succ]
        refine wpAnyH_done (by kernel_rfl) ?_ _
        generalize World.setRow (World.setRow _ _ _) _ _ = w4 at *
        go_wp2_with fail
        refine (HSB.out w4 HW4.out).mono ?_
        rintro e w5 ⟨rfl, hb5⟩
        have HW5 := Lib.hid (HW4.out.via hb5)
        go_wp2
        go_roundw
        case rel => exact ⟨p + 1, by go_num, hlt, HB3.out _ HW5.out, HX5.out _ HW5.out, HY5.out _ HW5.out⟩
        case measure => simp [intOf]; omega
      · go_simp
        refine hK.out _ _ HW1.out (fun _ => ?_)
        clear hK K
        try simp only [List.getElem_toArray, List.getElem_cons_zero, List.getElem_cons_succ, Act.put, List.setIfInBounds_toArray, List.set_cons_zero, List.set_cons_succ]
        refine wpAnyH_ready (rs := [10]) (by kernel_rfl) (by simp) ?_
        refine AllReadyH.cons rfl (fun K hK => ?_) AllReadyH.nil
        go_simp
        refine hK.out _ _ HW2.out (fun _ => ?_)
        clear hK K
        try simp only [List.getElem_toArray, List.getElem_cons_zero, List.getElem_cons_succ, Act.put, List.setIfInBounds_toArray, List.set_cons_zero, List.set_cons_succ]
        refine wpAnyH_ready (rs := [12]) (by kernel_rfl) (by simp) ?_
        refine AllReadyH.cons rfl (fun K hK => ?_) AllReadyH.nil
        refine wp_store_row 57 (.tmp 6) (.tmp 33) rfl (wr.heap.size + 1) #[.string key, .bool dead, .slice xA xn xk, .int .u64 (gen : Int), .int .i64 siz] rfl rfl 57 #[.string ⟨#[]⟩, .bool false, .slice none 0 0, .int .u64 0, .int .i64 0] HZ2.out infoChg rfl (by simp [Value.oneCell']) ?_
        have HW3 := Lib.hid (below_setRow HW2.out (g := (wr.heap.size + 1)) (by first | exact Nat.le_refl _ | exact Nat.le_succ _) #[.string key, .bool dead, .slice xA xn xk, .int .u64 (gen : Int), .int .i64 siz])
        have HX3 := Lib.hid (Blk.row HZ2.out #[.string key, .bool dead, .slice xA xn xk, .int .u64 (gen : Int), .int .i64 siz])
        have HY3 := Lib.hid (Blk.rowFar HZ1.out (g' := (wr.heap.size + 1)) (by omega) #[.string key, .bool dead, .slice xA xn xk, .int .u64 (gen : Int), .int .i64 siz])
        refine hK.out _ _ HW3.out (fun _ => ?_)
        clear hK K
        try simp only [List.getElem_toArray, List.getElem_cons_zero, List.getElem_cons_succ, Act.put, List.setIfInBounds_toArray, List.set_cons_zero, List.set_cons_succ]
        refine wpAnyH_ready (rs := [13]) (by kernel_rfl) (by simp) ?_
        refine AllReadyH.cons rfl (fun K hK => ?_) AllReadyH.nil
        refine wp_store_row 57 (.tmp 7) (.tmp 38) rfl wr.heap.size #[.string key, .bool dead, .slice yA xn yk, .int .u64 (gen : Int), .int .i64 siz] rfl rfl 57 #[.string ⟨#[]⟩, .bool false, .slice none 0 0, .int .u64 0, .int .i64 0] HY3.out infoChg rfl (by simp [Value.oneCell']) ?_
        have HW4 := Lib.hid (below_setRow HW3.out (g := wr.heap.size) (by first | exact Nat.le_refl _ | exact Nat.le_succ _) #[.string key, .bool dead, .slice yA xn yk, .int .u64 (gen : Int), .int .i64 siz])
        have HX4 := Lib.hid (Blk.rowFar HX3.out (g' := wr.heap.size) (by omega) #[.string key, .bool dead, .slice yA xn yk, .int .u64 (gen : Int), .int .i64 siz])
        have HY4 := Lib.hid (Blk.row HY3.out #[.string key, .bool dead, .slice yA xn yk, .int .u64 (gen : Int), .int .i64 siz])
        obtain ⟨c0, c1, c2, c3, c4⟩ : _ ∧ _ ∧ _ ∧ _ ∧ _ := ⟨HX4.out.cell 0, HX4.out.cell 1, HX4.out.cell 2, HX4.out.cell 3, HX4.out.cell 4⟩
        obtain ⟨d0, d1, d2, d3, d4⟩ : _ ∧ _ ∧ _ ∧ _ ∧ _ := ⟨HY4.out.cell 0, HY4.out.cell 1, HY4.out.cell 2, HY4.out.cell 3, HY4.out.cell 4⟩
        simp only [List.getElem?_toArray, List.getElem?_cons_zero, List.getElem?_cons_succ] at c0 c1 c2 c3 c4 d0 d1 d2 d3 d4
        refine hK.out _ _ HW4.out (fun _ => ?_)
        clear hK K
        try simp only [List.getElem_toArray, List.getElem_cons_zero, List.getElem_cons_succ, Act.put, List.setIfInBounds_toArray, List.set_cons_zero, List.set_cons_succ]
        refine wpAnyH_done (by kernel_rfl) ?_ _
        generalize World.setRow (World.setRow _ _ _) _ _ = w4 at *
        go_wp2_with fail
        refine (HSB.out w4 HW4.out).mono ?_
        rintro e w5 ⟨rfl, hb5⟩
        have HW5 := Lib.hid (HW4.out.via hb5)
        go_wp2
        go_roundw
        case rel => exact ⟨p + 1, by go_num, hlt, HB3.out _ HW5.out, HX5.out _ HW5.out, HY5.out _ HW5.out⟩
        case measure => simp [intOf]; omega
    · obtain rfl : p = n := by omega
      go_wp2
      go_ret
      exact ⟨rfl, HB.out⟩
end Cib
