/- Records: Right, PutRecord. -/
import Derived.Test.YtmabmhiombnngaaFrmG
set_option linter.unusedVariables false
set_option linter.unusedSimpArgs false
set_option maxRecDepth 40000
namespace Cib
open Go Go.RowKit Go.Proofs
theorem cg_at {w : World} {B : Nat} {A : Option Addr} {l : List CgM} (h : Rd w B A (l.map CgM.row).flatten) {i : Nat} (hi : i < l.length) :
    ∃ b off, A = some ⟨b, off, none⟩ ∧ b < B ∧ w.cell? ⟨b, off + i * 5, none⟩ = some (.string l[i].c.key) ∧ w.cell? ⟨b, off + i * 5 + 1, none⟩ = some (.bool l[i].c.dead) ∧ w.cell? ⟨b, off + i * 5 + 2, none⟩ = some (.slice l[i].A l[i].n l[i].k) ∧ w.cell? ⟨b, off + i * 5 + 3, none⟩ = some (.int .u64 (l[i].c.blob.gen : Int)) ∧ w.cell? ⟨b, off + i * 5 + 4, none⟩ = some (.int .i64 l[i].c.blob.size) := by
  obtain ⟨b, off, e, hb, hc⟩ := Rd.fieldAt (s := 5) h (by intro r hr; obtain ⟨x, _, rfl⟩ := List.mem_map.1 hr; rfl) (i := i) (by simpa using hi) (by decide)
  refine ⟨b, off, e, hb, hc 0 _ ?_, hc 1 _ ?_, hc 2 _ ?_, hc 3 _ ?_, hc 4 _ ?_⟩ <;> simp [CgM.row]
theorem le_of_lt {a b : ByteArray} : (Op.bytesLess a.toList b.toList || a.toList == b.toList) = !Ord.lt b a := by
  show (Ord.lt a b || Ord.eq a b) = !Ord.lt b a
  cases h : Ord.lt b a
  · cases h' : Ord.lt a b
    · rw [Ord.lt_tri h' h]
      simp [Ord.eq]
    · rfl
  · cases h' : Ord.lt a b
    · cases h2 : Ord.eq a b
      · rfl
      · rw [(Ord.eq_iff a b).1 h2, Ord.lt_irr] at h
        cases h
    · have := Ord.lt_trans h h'
      rw [Ord.lt_irr] at this
      cases this
set_option maxHeartbeats 1000000 in
theorem frmRight (st : Nat) (A : Option Addr) (n k : Nat) (X : List CgM) (w : World) (h : Rd w w.heap.size A (X.map CgM.row).flatten) (hX : ∀ x ∈ X, x.At w w.heap.size) (hl : X.length = n) (hn : n ≤ 140737488355328) :
    Calls Try.prog 10 #[.agg #[.int .u64 (st : Int), .slice A n k]] w fun e w' => e = .returned (.bool (Frm.right ⟨st, X.map (·.c)⟩)) ∧ Below w.heap.size w w' := by
  have HAL := Lib.hid ((Below.refl w.heap.size w).alloc (Nat.le_refl _) (.cells #[.int .u64 (st : Int), .slice A n k] 25))
  have HM := Lib.hid (Blk.new w 25 #[.int .u64 (st : Int), .slice A n k])
  have HRD := Lib.hid h
  have HXX := Lib.hid hX
  have HL := Lib.hid hl
  have hR : Frm.right ⟨st, X.map (·.c)⟩ = (Frm.rightFrom Ord.z (X.map (·.c)) && decide (n ≤ 16)) := by
    unfold Frm.right
    simp only [List.length_map, hl]
  rw [hR]
  obtain ⟨r, hr⟩ : ∃ r, Frm.rightFrom Ord.z (X.map (·.c)) = r := ⟨_, rfl⟩
  rw [hr]
  have HR0 := Lib.hid hr
  clear h hX hl hR hr
  go_enter Try.func10, Try.ntmps10
  go_wp2
  go_loopw [3, 5, 9] (fun s _ i wr => ∃ (p : Nat) (key : ByteArray), i = .int .i64 p ∧ p ≤ n ∧ s = .string key ∧ Hid (Frm.rightFrom key ((X.map (·.c)).drop p) = r) ∧ Hid (Below w.heap.size w wr) ∧ Hid (Blk wr w.heap.size 25 #[.int .u64 (st : Int), .slice A n k])) (fun _ _ i _ => n - (intOf i).toNat)
  case atStart => exact ⟨0, Ord.z, rfl, Nat.zero_le _, rfl, HR0, HAL, HM⟩
  case round =>
    clear HR0 HAL HM
    obtain ⟨p, key, rfl, hp, rfl, HR, HB, HK⟩ := hrel
    by_cases hlt : p < n
    · have hpl : p < X.length := by rw [HL.out]; exact hlt
      obtain ⟨b, off, rfl, hbB, c0, c1, c2, c3, c4⟩ := cg_at (HRD.out.below HB.out) hpl
      have hx := HXX.out _ (List.getElem_mem hpl)
      have HDR : Hid ((X.map (·.c)).drop p = X[p].c :: (X.map (·.c)).drop (p + 1)) := Lib.hid (by rw [List.drop_eq_getElem_cons (by rw [List.length_map]; exact hpl), List.getElem_map])
      generalize X[p] = x at *
      rw [HDR.out, Frm.rightFrom] at HR
      have hal : Below wr.heap.size wr (wr.alloc (.cells #[.string x.c.key, .bool x.c.dead, .slice x.A x.n x.k, .int .u64 (x.c.blob.gen : Int), .int .i64 x.c.blob.size] 57)) := (Below.refl _ _).alloc (Nat.le_refl _) _
      have HF := Lib.hid (frmFits x (wr.alloc (.cells #[.string x.c.key, .bool x.c.dead, .slice x.A x.n x.k, .int .u64 (x.c.blob.gen : Int), .int .i64 x.c.blob.size] 57)) ((hx.below (HB.out.via hal)).more (HB.out.via hal).size))
      have HB2 := Lib.hid (HB.out.via hal)
      have HK2 := Lib.hid (HK.out.below hal HK.out.lt)
      have HX2 := Lib.hid (Blk.new wr 57 #[.string x.c.key, .bool x.c.dead, .slice x.A x.n x.k, .int .u64 (x.c.blob.gen : Int), .int .i64 x.c.blob.size])
      have hle := @le_of_lt x.c.key key
      clear hpl HDR hx hal HB HK
      obtain ⟨f, hf⟩ : ∃ f, Frm.fits x.c = f := ⟨_, rfl⟩
      obtain ⟨l, hl⟩ : ∃ l, Ord.lt key x.c.key = l := ⟨_, rfl⟩
      rw [hf] at HF HR
      rw [hl] at HR hle
      clear hf hl
      go_upto_region 5 with fail
      generalize wr.alloc _ = w2 at *
      generalize wr.heap.size = g at *
      clear c0 c1 c2 c3 c4
      obtain ⟨c0, c1, c2, c3, c4⟩ : _ ∧ _ ∧ _ ∧ _ ∧ _ := ⟨HX2.out.cell 0, HX2.out.cell 1, HX2.out.cell 2, HX2.out.cell 3, HX2.out.cell 4⟩
      simp only [List.getElem?_toArray, List.getElem?_cons_zero, List.getElem?_cons_succ] at c0 c1 c2 c3 c4
      go_wp2_with fail
      refine HF.out.mono ?_
      rintro e w3 ⟨rfl, hb3⟩
      have HB3 := Lib.hid (HB2.out.via hb3)
      have HK3 := Lib.hid (HK2.out.below hb3 HK2.out.lt)
      have d0 := (HX2.out.below hb3 HX2.out.lt).cell 0
      simp only [List.getElem?_toArray, List.getElem?_cons_zero, List.getElem?_cons_succ] at d0
      clear hb3 HB2 HK2 HF c0 c1 c2 c3 c4
      cases f
      · obtain rfl : r = false := by rw [← HR.out]; rfl
        clear HR
        go_wp2
        go_ret
        exact ⟨rfl, HB3.out⟩
      · cases l
        · obtain rfl : r = false := by rw [← HR.out]; rfl
          clear HR
          go_wp2
          go_ret
          exact ⟨rfl, HB3.out⟩
        · rw [Bool.true_and, Bool.true_and] at HR
          go_wp2
          go_roundw
          case rel => exact ⟨p + 1, x.c.key, by go_num, hlt, rfl, HR, HB3, HK3⟩
          case measure => simp [intOf]; omega
    · obtain rfl : p = n := by omega
      obtain rfl : r = true := by
        rw [← HR.out, List.drop_of_length_le (by rw [List.length_map, HL.out]; exact Nat.le_refl _)]
        rfl
      have m1 := HK.out.cell 1
      simp only [List.getElem?_toArray, List.getElem?_cons_zero, List.getElem?_cons_succ] at m1
      go_wp2
      go_ret
      refine ⟨?_, HB.out⟩
      rw [Bool.true_and]
      first | rfl | (refine ret_eq (bool_eq ?_); exact decide_eq_decide.2 (by omega))
end Cib
