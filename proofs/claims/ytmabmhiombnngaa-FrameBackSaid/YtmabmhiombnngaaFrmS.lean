/- The reader of records: key, flag. -/
import Derived.Test.YtmabmhiombnngaaFrmQ
set_option linter.unusedVariables false
set_option linter.unusedSimpArgs false
set_option maxRecDepth 40000
namespace Cib
open Go Go.RowKit Go.Proofs
set_option maxHeartbeats 1000000 in
theorem frmKey (g : Nat) (A : Option Addr) (n c : Nat) (bs : List UInt8) (behind : ByteArray) (st : Frm.St) (w : World) (hs : Src w g A n c bs) (h : RdI g A n c st w) (ho : StOk bs st) :
    Calls Try.prog 42 #[.pointer (some ⟨g, 0, none⟩), .string behind] w fun e W' => e = .returned (.string (Frm.rdKey bs behind st).1) ∧ But g w W' ∧ RdI g A n c (Frm.rdKey bs behind st).2 W' := by
  obtain ⟨a, q0⟩ := st
  have hg := Blk.lt h
  have HB0 := Lib.hid (But.below ((Below.refl w.heap.size w).alloc (Nat.le_refl _) (.cells #[.string ⟨#[]⟩] 9)) hg)
  have HX0 := Lib.hid (h.below ((Below.refl w.heap.size w).alloc (Nat.le_refl _) (.cells #[.string ⟨#[]⟩] 9)))
  have HV0 := Lib.hid (Blk.new w 9 #[.string ⟨#[]⟩])
  unfold Frm.rdKey
  by_cases h0 : q0 = 0
  · subst h0
    rw [if_neg (by simp)]
    have HN := Lib.hid (frmKey1 w.heap.size (.string ⟨#[]⟩) g A n c bs a (w.alloc (.cells #[.string ⟨#[]⟩] 9)).drew ((hs.but HB0.out).but (But.drewN _ _ 1)) ho HV0.out)
    generalize Num.part bs a 16 = V at *
    obtain ⟨v0, p, q⟩ := V
    try simp only at HN
    simp only
    obtain ⟨v, hv⟩ : ∃ v : ByteArray, (⟨v0.toArray⟩ : ByteArray) = v := ⟨_, rfl⟩
    rw [hv] at HN ⊢
    have HP := Lib.hid (frmPart 50 #[.pointer (some ⟨w.heap.size, 0, none⟩)] g A n c a p q (w.alloc (.cells #[.string ⟨#[]⟩] 9)) (fun W1 => But g w W1 ∧ Blk W1 w.heap.size 9 #[.string v]) (fun a W => by go_simp) HX0.out (HN.out.mono (by
      rintro e W' ⟨rfl, rfl⟩
      exact ⟨rfl, Blk.far HX0.out (by show g ≠ w.heap.size; omega) _, (HB0.out.drew 1).far (Nat.le_refl _) hg, Blk.set (Blk.drewN HV0.out 1) 0 _⟩)))
    obtain ⟨st', hst⟩ : ∃ st', (if q = 0 then (p, 0) else (a, q)) = st' := ⟨_, rfl⟩
    rw [hst] at HP ⊢
    have hle := @le_of_lt v behind
    obtain ⟨l, hl⟩ : ∃ l, Ord.lt behind v = l := ⟨_, rfl⟩
    rw [hl] at hle ⊢
    have HF := Lib.hid fun W hx => frmFail g A n c st' (!l) 3 W hx
    obtain ⟨st2, hst2⟩ : ∃ st2, Frm.fail (!l) 3 st' = st2 := ⟨_, rfl⟩
    rw [hst2] at HF ⊢
    clear hs h ho HN HX0 hst hl hv hst2
    go_enter Try.func42, Try.ntmps42
    go_wp2_with fail
    refine HP.out.mono ?_
    rintro e w3 ⟨rfl, w2, ⟨hb2, hv2⟩, hb3, hx3⟩
    have HV3 := Lib.hid (hv2.but hb3 (by omega))
    have HB3 := Lib.hid (hb2.trans hb3)
    have HX3 := Lib.hid hx3
    have hc := HV3.out.cell 0
    simp only [List.getElem?_toArray, List.getElem?_cons_zero] at hc
    clear hb2 hv2 hb3 hx3 HP HV0 HB0
    go_wp2_with fail
    refine (HF.out w3 HX3.out).mono ?_
    rintro e w4 ⟨rfl, hb4, hx4⟩
    have HV4 := Lib.hid (HV3.out.but hb4 (by omega))
    have HB4 := Lib.hid (HB3.out.trans hb4)
    have HX4 := Lib.hid hx4
    have hf := HV4.out.frozen 0
    have hc4 := HV4.out.cell 0
    simp only [List.getElem?_toArray, List.getElem?_cons_zero] at hc4
    clear hb4 hx4 hc HV3 HB3 HX3 HF
    go_wp2
    refine bodyPost_ret (results_cell1 (g := w.heap.size) (v := .string v) rfl _ _ _ rfl ((Blk.set HV4.out 0 _).cell 0) Try.underlying9 rfl) rfl ?_
    exact ⟨rfl, HB4.out.far (Nat.le_refl _) hg, Blk.far HX4.out (by show g ≠ w.heap.size; omega) _⟩
  · rw [if_pos h0]
    simp only
    have HV1 : Hid (Blk (w.alloc (.cells #[.string ⟨#[]⟩] 9)) w.heap.size 9 #[.string Ord.z]) := Lib.hid HV0.out
    have HP := Lib.hid ((frmPart0 50 #[.pointer (some ⟨w.heap.size, 0, none⟩)] g A n c (a, q0) (w.alloc (.cells #[.string ⟨#[]⟩] 9)) HX0.out h0).mono (R' := fun e W' => e = .returned (.tuple #[]) ∧ But g w W' ∧ RdI g A n c (a, q0) W' ∧ Blk W' w.heap.size 9 #[.string Ord.z]) (by
      rintro e W' ⟨rfl, rfl⟩
      exact ⟨rfl, HB0.out, HX0.out, HV1.out⟩))
    clear HV1 HX0 HV0 HB0
    generalize Ord.z = v at *
    have hle := @le_of_lt v behind
    obtain ⟨l, hl⟩ : ∃ l, Ord.lt behind v = l := ⟨_, rfl⟩
    rw [hl] at hle ⊢
    have HF := Lib.hid fun W hx => frmFail g A n c (a, q0) (!l) 3 W hx
    obtain ⟨st2, hst2⟩ : ∃ st2, Frm.fail (!l) 3 (a, q0) = st2 := ⟨_, rfl⟩
    rw [hst2] at HF ⊢
    clear hs h ho hl h0 hst2
    go_enter Try.func42, Try.ntmps42
    go_wp2_with fail
    refine HP.out.mono ?_
    rintro e w3 ⟨rfl, hb3, hx3, hv3⟩
    have HV3 := Lib.hid hv3
    have HB3 := Lib.hid hb3
    have HX3 := Lib.hid hx3
    have hc := HV3.out.cell 0
    simp only [List.getElem?_toArray, List.getElem?_cons_zero] at hc
    clear hb3 hv3 hx3 HP
    go_wp2_with fail
    refine (HF.out w3 HX3.out).mono ?_
    rintro e w4 ⟨rfl, hb4, hx4⟩
    have HV4 := Lib.hid (HV3.out.but hb4 (by omega))
    have HB4 := Lib.hid (HB3.out.trans hb4)
    have HX4 := Lib.hid hx4
    have hf := HV4.out.frozen 0
    have hc4 := HV4.out.cell 0
    simp only [List.getElem?_toArray, List.getElem?_cons_zero] at hc4
    clear hb4 hx4 hc HV3 HB3 HX3 HF
    go_wp2
    refine bodyPost_ret (results_cell1 (g := w.heap.size) (v := .string v) rfl _ _ _ rfl ((Blk.set HV4.out 0 _).cell 0) Try.underlying9 rfl) rfl ?_
    exact ⟨rfl, HB4.out.far (Nat.le_refl _) hg, Blk.far HX4.out (by show g ≠ w.heap.size; omega) _⟩
theorem key_ok {bs : List UInt8} {behind : ByteArray} {st : Frm.St} (h : StOk bs st) : StOk bs (Frm.rdKey bs behind st).2 := by
  unfold Frm.rdKey StOk
  simp only [fail_st]
  split
  · exact h
  · simp only
    split
    · rename_i hp
      unfold Num.part at hp ⊢
      have := var_pos bs st.1
      simp only at hp ⊢
      split at hp
      · rename_i hv; exact absurd hp hv
      · split at hp
        · cases hp
        · split at hp
          · cases hp
          · rw [if_neg (by assumption), if_neg (by assumption), if_neg (by assumption)]
            simp only
            omega
    · exact h
set_option maxHeartbeats 1000000 in
theorem frmFlag (g : Nat) (A : Option Addr) (n c : Nat) (bs : List UInt8) (st : Frm.St) (w : World) (hs : Src w g A n c bs) (h : RdI g A n c st w) (ho : StOk bs st) :
    Calls Try.prog 43 #[.pointer (some ⟨g, 0, none⟩)] w fun e W' => e = .returned (.bool (Frm.rdFlag bs st).1) ∧ But g w W' ∧ RdI g A n c (Frm.rdFlag bs st).2 W' := by
  obtain ⟨a, q0⟩ := st
  have hg := Blk.lt h
  have HB0 := Lib.hid (But.below ((Below.refl w.heap.size w).alloc (Nat.le_refl _) (.cells #[.int .u64 0] 22)) hg)
  have HX0 := Lib.hid (h.below ((Below.refl w.heap.size w).alloc (Nat.le_refl _) (.cells #[.int .u64 0] 22)))
  have HV0 := Lib.hid (Blk.new w 22 #[.int .u64 0])
  have HP : ∃ v st', (if (a, q0).2 ≠ 0 then (0, (a, q0)) else ((Go.Proofs.Ytmabmhiombnngaa.getP bs (a, q0).1 1).1, if (Go.Proofs.Ytmabmhiombnngaa.getP bs (a, q0).1 1).2 = 0 then ((a, q0).1 + 1, 0) else ((a, q0).1, (Go.Proofs.Ytmabmhiombnngaa.getP bs (a, q0).1 1).2))) = (v, st') ∧
      Hid (Calls Try.prog 39 #[.pointer (some ⟨g, 0, none⟩), .func (.func 52) #[] #[.pointer (some ⟨w.heap.size, 0, none⟩)]] (w.alloc (.cells #[.int .u64 0] 22)) fun e W' => e = .returned (.tuple #[]) ∧ But g w W' ∧ RdI g A n c st' W' ∧ Blk W' w.heap.size 22 #[.int .u64 ((v : Nat) : Int)]) := by
    by_cases h0 : q0 = 0
    · subst h0
      rw [if_neg (by simp)]
      have HN := Lib.hid (frmFlag1 w.heap.size (.int .u64 0) g A n c bs a (w.alloc (.cells #[.int .u64 0] 22)).drew ((hs.but HB0.out).but (But.drewN _ _ 1)) ho HV0.out)
      generalize Go.Proofs.Ytmabmhiombnngaa.getP bs a 1 = V at *
      obtain ⟨v, q⟩ := V
      try simp only at HN
      refine ⟨_, _, rfl, Lib.hid ((frmPart 52 #[.pointer (some ⟨w.heap.size, 0, none⟩)] g A n c a (a + 1) q (w.alloc (.cells #[.int .u64 0] 22)) (fun W1 => But g w W1 ∧ Blk W1 w.heap.size 22 #[.int .u64 (v : Int)]) (fun a W => by go_simp) HX0.out (HN.out.mono (by
        rintro e W' ⟨rfl, rfl⟩
        exact ⟨rfl, Blk.far HX0.out (by show g ≠ w.heap.size; omega) _, (HB0.out.drew 1).far (Nat.le_refl _) hg, Blk.set (Blk.drewN HV0.out 1) 0 _⟩))).mono ?_)⟩
      rintro e w3 ⟨rfl, w2, ⟨hb2, hv2⟩, hb3, hx3⟩
      exact ⟨rfl, hb2.trans hb3, hx3, hv2.but hb3 (by omega)⟩
    · rw [if_pos h0]
      refine ⟨_, _, rfl, Lib.hid ((frmPart0 52 #[.pointer (some ⟨w.heap.size, 0, none⟩)] g A n c (a, q0) (w.alloc (.cells #[.int .u64 0] 22)) HX0.out h0).mono ?_)⟩
      rintro e W' ⟨rfl, rfl⟩
      exact ⟨rfl, HB0.out, HX0.out, HV0.out⟩
  obtain ⟨v, st', hE, HP⟩ := HP
  unfold Frm.rdFlag
  simp only
  simp only at hE
  rw [hE]
  simp only
  have HF := Lib.hid fun W hx => frmFail g A n c st' (decide (1 < v)) 3 W hx
  obtain ⟨st2, hst2⟩ : ∃ st2, Frm.fail (decide (1 < v)) 3 st' = st2 := ⟨_, rfl⟩
  rw [hst2] at HF ⊢
  have hd1 : decide ((1 : Int) < (v : Int)) = decide (1 < v) := decide_eq_decide.2 (by omega)
  have hd2 : ((v : Int) == 1) = decide (v = 1) := by rw [Bool.eq_iff_iff]; simp; omega
  obtain ⟨b1, hb1⟩ : ∃ b1, decide (1 < v) = b1 := ⟨_, rfl⟩
  obtain ⟨b2, hb2⟩ : ∃ b2, decide (v = 1) = b2 := ⟨_, rfl⟩
  rw [hb1] at hd1 HF
  rw [hb2] at hd2 ⊢
  clear hs h ho HX0 hst2 HB0 HV0 hE hb1 hb2
  go_enter Try.func43, Try.ntmps43
  go_wp2_with fail
  refine HP.out.mono ?_
  rintro e w3 ⟨rfl, hb3, hx3, hv3⟩
  have HV3 := Lib.hid hv3
  have HB3 := Lib.hid hb3
  have HX3 := Lib.hid hx3
  have hc := HV3.out.cell 0
  simp only [List.getElem?_toArray, List.getElem?_cons_zero] at hc
  clear hb3 hx3 hv3 HP
  go_wp2_with fail
  refine (HF.out w3 HX3.out).mono ?_
  rintro e w4 ⟨rfl, hb4, hx4⟩
  have HV4 := Lib.hid (HV3.out.but hb4 (by omega))
  have HB4 := Lib.hid (HB3.out.trans hb4)
  have HX4 := Lib.hid hx4
  have hc4 := HV4.out.cell 0
  simp only [List.getElem?_toArray, List.getElem?_cons_zero] at hc4
  clear hb4 hx4 hc HV3 HB3 HX3 HF
  go_wp2
  go_ret
  exact ⟨rfl, HB4.out, HX4.out⟩
theorem flag_ok {bs : List UInt8} {st : Frm.St} (h : StOk bs st) : StOk bs (Frm.rdFlag bs st).2 := by
  unfold Frm.rdFlag StOk
  simp only [fail_st]
  split
  · exact h
  · simp only
    split
    · rename_i hp
      unfold Go.Proofs.Ytmabmhiombnngaa.getP at hp
      split at hp
      · cases hp
      · split at hp
        · cases hp
        · simp only; omega
    · exact h
end Cib
