/- What must come at any rate: the page's example. -/
import Derived.Test.YtmabmhiombnngaaFrmV
import Derived.Test.YtmabmhiombnngaaFrmK
import Derived.Test.YtmabmhiombnngaaFrmC
set_option linter.unusedVariables false
set_option linter.unusedSimpArgs false
set_option maxRecDepth 40000
namespace Cib
open Go Go.RowKit Go.Proofs
def exR : Frm.Rcd := ⟨7, [⟨⟨#[97]⟩, true, Frm.nulB⟩, ⟨⟨#[98]⟩, false, ⟨[3], 9, 2⟩⟩]⟩
theorem exVb : ∀ n, n < 128 → Num.vb n = [UInt8.ofNat n] := by
  intro n h
  unfold Num.vb
  rw [Num.varB]
  simp
  omega
theorem exBytes : Frm.recB exR = [7, 2, 1, 97, 1, 1, 98, 0, 2, 9, 1, 3] := by
  unfold Frm.recB exR Frm.chB Frm.blB
  simp only [List.flatMap_cons, List.flatMap_nil, List.length_cons, List.length_nil, Frm.nulB]
  rw [exVb _ (by decide), exVb _ (by decide), exVb _ (by decide), exVb _ (by decide), exVb _ (by decide), exVb _ (by decide), exVb _ (by decide), exVb _ (by decide)]
  rfl
theorem exLt1 : Ord.lt Ord.z ⟨#[97]⟩ = true := by
  unfold Ord.lt
  rw [Go.ByteArray.toList_eq, Go.ByteArray.toList_eq]
  rfl
theorem exLt2 : Ord.lt ⟨#[97]⟩ ⟨#[98]⟩ = true := by
  unfold Ord.lt
  rw [Go.ByteArray.toList_eq, Go.ByteArray.toList_eq]
  rfl
theorem exRight : Frm.right exR = true := by
  unfold Frm.right exR
  simp only [Frm.rightFrom, exLt1, exLt2]
  decide
theorem exCut : Frm.cutF 8 1 0#32 [] = [Frm.pc 3 [] (Frm.sum 0#32 3 [])] := Frm.cutF_last (by rintro ⟨_, h⟩; simp at h)
theorem exTake : (Frm.pc 3 [] (Frm.sum 0#32 3 [])).take 3 = [3, 0, 0] := rfl
theorem exLen : (Frm.pc 3 [] (Frm.sum 0#32 3 [])).length = 7 := by rw [Frm.pc_length]; rfl
/-- The example's changes, where they lie. -/
def exX (s : Nat) : List CgM := [⟨⟨⟨#[97]⟩, true, Frm.nulB⟩, none, 0, 0⟩, ⟨⟨⟨#[98]⟩, false, ⟨[3], 9, 2⟩⟩, some ⟨s, 0, none⟩, 1, 1⟩]
def exW (w : World) : World := ((w.alloc (.cells #[.int .i64 3] 3)).alloc (.cells #[.string ⟨#[97]⟩, .bool true, .slice none 0 0, .int .u64 0, .int .i64 0, .string ⟨#[98]⟩, .bool false, .slice (some ⟨w.heap.size, 0, none⟩) 1 1, .int .u64 9, .int .i64 2] 57)).alloc (.cells #[.int .u64 7, .slice (some ⟨w.heap.size + 1, 0, none⟩) 2 2] 25)
structure ExI (w W : World) : Prop where
  bel : Below w.heap.size w W
  rd : Rd W W.heap.size (some ⟨w.heap.size + 1, 0, none⟩) ((exX w.heap.size).map CgM.row).flatten
  at_ : ∀ x ∈ exX w.heap.size, x.At W W.heap.size
  rc : Blk W (w.heap.size + 1 + 1) 25 #[.int .u64 7, .slice (some ⟨w.heap.size + 1, 0, none⟩) 2 2]
theorem ExI.below {w W W' : World} (h : ExI w W) (hb : Below W.heap.size W W') : ExI w W' := ⟨h.bel.via hb, (h.rd.below hb).more hb.size, fun x hx => ((h.at_ x hx).below hb).more hb.size, h.rc.below hb h.rc.lt⟩
theorem exI (w : World) : ExI w (exW w) := by
  unfold exW
  refine ⟨((((Below.refl _ _).alloc (Nat.le_refl _) _).alloc (by simp) _).alloc (by simp; omega) _), ?_, ?_, ?_⟩
  · have h := Rd.new (w.alloc (.cells #[.int .i64 3] 3)) #[.string ⟨#[97]⟩, .bool true, .slice none 0 0, .int .u64 0, .int .i64 0, .string ⟨#[98]⟩, .bool false, .slice (some ⟨w.heap.size, 0, none⟩) 1 1, .int .u64 9, .int .i64 2] 57 (0, 0) (vs := ((exX w.heap.size).map CgM.row).flatten) rfl
    have e : (w.alloc (.cells #[.int .i64 3] 3)).heap.size = w.heap.size + 1 := by simp
    rw [e] at h
    exact (h.alloc (by simp) _).more (by simp)
  · intro x hx
    unfold exX at hx
    rcases List.mem_cons.1 hx with rfl | hx
    · exact ⟨Rd.nil _ _ _, rfl, by decide, by decide, by decide, by decide⟩
    · rw [List.mem_singleton] at hx
      subst hx
      have h := Rd.new w #[.int .i64 3] 3 (0, 0) (vs := [Value.int .i64 3]) rfl
      exact ⟨(((h.alloc (by simp) _).more (Nat.le_succ _)).alloc (by simp) _).more (by simp), rfl, by show 1 ≤ 140737488355328; decide, by show 9 < 18446744073709551616; decide, by show 1 ≤ 140737488355328; decide, by show -9223372036854775808 ≤ (2 : Int) ∧ (2 : Int) ≤ 9223372036854775807; decide⟩
  · have := Blk.new ((w.alloc (.cells #[.int .i64 3] 3)).alloc (.cells #[.string ⟨#[97]⟩, .bool true, .slice none 0 0, .int .u64 0, .int .i64 0, .string ⟨#[98]⟩, .bool false, .slice (some ⟨w.heap.size, 0, none⟩) 1 1, .int .u64 9, .int .i64 2] 57)) 25 #[.int .u64 7, .slice (some ⟨w.heap.size + 1, 0, none⟩) 2 2]
    simpa using this
set_option maxHeartbeats 2000000 in
theorem lawFrames (w : World) : Calls Try.prog 8 #[] w fun e w' => e = .returned (.bool true) ∧ Below w.heap.size w w' := by
  have HI := Lib.hid (exI w)
  have HP := Lib.hid (frmPut 7 (some ⟨w.heap.size + 1, 0, none⟩) 2 2 (exX w.heap.size) (exW w) HI.out.rd HI.out.at_ rfl (by decide) (by decide))
  have HC := Lib.hid fun W => frmCut none 0 0 [] 8 W (Rd.nil _ _ _) rfl (Nat.le_refl _) (Nat.zero_le _) (by decide) (by decide)
  have HJ := Lib.hid fun W => frmJoin none 0 0 [] W (Rd.nil _ _ _) (fun r hr => (by cases hr)) rfl (by decide) (fun r hr => (by cases hr))
  go_enter Try.func8, Try.ntmps8
  go_wp2_with fail
  refine HP.out.mono ?_
  rintro e w2 hp2
  have hp2 : PutR exR (exW w) e w2 := hp2
  have hp3 := hp2.resolve_right (fun h => by rw [exRight] at h; cases h.1)
  clear hp2
  obtain ⟨_, A2, n2, c2, rfl, hn2, hm2, ho2, hb2⟩ := hp3
  rw [exBytes] at hn2 ho2
  have HI2 := Lib.hid (HI.out.below hb2)
  have HO2 := Lib.hid ho2
  have hk2 := own_cap ho2
  have HG := Lib.hid (frmGet A2 n2 c2 [7, 2, 1, 97, 1, 1, 98, 0, 2, 9, 1, 3] w2 ⟨Rd.of_own ho2, hn2, hk2.1, hk2.2, by omega⟩)
  clear HI HP ho2 hb2 hm2
  go_wp2_with fail
  refine HG.out.mono ?_
  rintro e w3 ⟨S3, A3, k3, xs, rfl, hg3, hrd3, hat3, hb3⟩
  have hge : Frm.getR [7, 2, 1, 97, 1, 1, 98, 0, 2, 9, 1, 3] = (exR, 0) := by
    rw [← exBytes]
    exact Frm.getR_put exRight (by decide) (by intro c hc; simp [exR, Frm.nulB] at hc; rcases hc with rfl | rfl <;> decide)
  rw [hge] at hg3 ⊢
  have hS3 : S3 = 7 ∧ exR.chs = xs.map (·.c) := by
    have := congrArg Prod.fst hg3
    exact ⟨(congrArg Frm.Rcd.stamp this).symm, congrArg Frm.Rcd.chs this⟩
  obtain ⟨rfl, hxs⟩ := hS3
  have hxl : xs.length = 2 := by
    have := congrArg List.length hxs
    simpa [exR] using this.symm
  rw [hxl]
  have HB4 := Lib.hid ((Below.refl w3.heap.size w3).alloc (Nat.le_refl _) (.cells #[.int .u64 7, .slice A3 2 k3] 25))
  have HI4 := Lib.hid ((HI2.out.below hb3).below HB4.out)
  have HO4 := Lib.hid (own_via (own_via HO2.out hb3) HB4.out)
  have HR4 := Lib.hid ((hrd3.below HB4.out).more HB4.out.size)
  have HA4 := Lib.hid fun x hx => ((hat3 x hx).below HB4.out).more HB4.out.size
  have HC4 := Lib.hid (Blk.new w3 25 #[.int .u64 7, .slice A3 2 k3])
  have HXS := Lib.hid hxs
  have HXL := Lib.hid hxl
  clear hge hg3 hrd3 hat3 hb3 hxs hxl HI2 HO2 HB4 HG
  go_wp2_with fail
  generalize w3.alloc _ = w4 at *
  generalize w3.heap.size = g3 at *
  refine (HC.out w4).mono ?_
  rintro e w5 ⟨A5, n5, c5, L, rfl, hL5, hn5, ho5, hr5, hb5⟩
  rw [exCut] at hL5
  obtain ⟨⟨rA, rn, rc, rbs⟩, rfl, hrb⟩ : ∃ r : RowB, L = [r] ∧ r.bs = Frm.pc 3 [] (Frm.sum 0#32 3 []) := by
    rcases L with _ | ⟨r, L⟩
    · cases hL5
    · rw [List.map_cons] at hL5
      injection hL5 with h1 h2
      rw [List.map_eq_nil_iff] at h2
      subst h2
      exact ⟨r, rfl, h1⟩
  obtain rfl : n5 = 1 := hn5.symm
  simp only at hrb
  subst hrb
  have HI5 := Lib.hid (HI4.out.below hb5)
  have HO5 := Lib.hid (own_via HO4.out hb5)
  have HR5 := Lib.hid ((HR4.out.below hb5).more hb5.size)
  have HA5 := Lib.hid fun x hx => ((HA4.out x hx).below hb5).more hb5.size
  have HC5 := Lib.hid (HC4.out.below hb5 HC4.out.lt)
  have HL5 := Lib.hid ho5
  have HRR5 := Lib.hid hr5
  have HZ5 := Lib.hid hb5.size
  clear hL5 hn5 ho5 hr5 hb5 HI4 HO4 HR4 HA4 HC4 HC
  go_wp2_with fail
  refine (HJ.out w5).mono ?_
  rintro e w6 ⟨A6, n6, c6, rfl, hn6, ho6, hb6⟩
  have HI6 := Lib.hid (HI5.out.below hb6)
  have HO6 := Lib.hid (own_via HO5.out hb6)
  have HC6 := Lib.hid (HC5.out.below hb6 HC5.out.lt)
  have HL6 := Lib.hid (own_via HL5.out hb6)
  have HRR6 := Lib.hid (HRR5.out.below hb6)
  have HSM := Lib.hid (refSameR 7 A3 (some ⟨w.heap.size + 1, 0, none⟩) 2 k3 2 xs (exX w.heap.size) w6 ((HR5.out.below hb6).more hb6.size) HI6.out.rd (fun x hx => ((HA5.out x hx).below hb6).more hb6.size) HI6.out.at_ HXL.out (by rw [← HXS.out]; rfl) (by decide))
  have r0 := HI6.out.rc.cell 0
  have r1 := HI6.out.rc.cell 1
  have x0 := HC6.out.cell 0
  have x1 := HC6.out.cell 1
  simp only [List.getElem?_toArray, List.getElem?_cons_zero, List.getElem?_cons_succ] at r0 r1 x0 x1
  clear hn6 ho6 hb6 HI5 HO5 HC5 HL5 HRR5 HR5 HA5 HJ
  go_wp2_with fail
  refine HSM.out.mono ?_
  rintro e w7 ⟨rfl, hb7⟩
  have HB7 := Lib.hid (HI6.out.bel.via hb7)
  have ho7 := own_via HO6.out hb7
  have hl7 := own_via HL6.out hb7
  have hq7 := (HRR6.out.below hb7).at _ (List.mem_singleton.2 rfl)
  obtain ⟨ad, rfl, hab, hcell⟩ := (Rd.of_own hl7).row (L := [⟨rA, rn, rc, Frm.pc 3 [] (Frm.sum 0#32 3 [])⟩]) (show 0 < 1 by decide)
  have hc7 : w7.cell? ad = some (.slice rA rn rc) := by
    have := hcell
    rw [addr_add_zero] at this
    exact this
  have s1 : (convert 26 9 (.slice A2 n2 c2)).run Try.prog w7 = .ok (.string ⟨#[7, 2, 1, 97, 1, 1, 98, 0, 2, 9, 1, 3]⟩) w7 := str_run (Rd.of_own ho7) (Below.refl _ _) (Nat.le_refl _) hn2 c2
  have hrn : rn = 7 := by
    have := hq7.len
    rw [exLen] at this
    exact this.symm
  subst hrn
  have s2 : (convert 26 9 (.slice rA 3 rc)).run Try.prog w7 = .ok (.string ⟨#[3, 0, 0]⟩) w7 := str_run (xs := [3, 0, 0]) (by
    have := hq7.rd.take 3
    rw [← List.map_take, exTake] at this
    exact this) (Below.refl _ _) (Nat.le_refl _) rfl rc
  have s3 : (Instr.slice 26 (.slice rA 7 rc) none (some (.int .i64 3)) none).run Try.prog w7 = .ok (.slice rA 3 rc) w7 := run_cut_to (P := Try.prog) 26 5 Try.underlying26 rfl rA 7 rc 3 .i64 (by have h := hq7.cap; simp only at h; omega) w7
  clear ho7 hl7 hq7 hab hcell hb7 HO6 HL6 HRR6 HI6 HC6 HSM r0 r1 x0 x1 hn2 hk2
  go_wp2
  go_ret
  exact ⟨rfl, HB7.out⟩
end Cib
