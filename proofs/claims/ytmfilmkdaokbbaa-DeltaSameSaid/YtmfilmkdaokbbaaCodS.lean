/- sum. -/
import Derived.Test.YtmfilmkdaokbbaaCodR
import Derived.Deep.RegionWith
set_option linter.unusedVariables false
set_option linter.unusedSimpArgs false
set_option maxRecDepth 40000
namespace Cib
open Go Go.RowKit Go.Proofs
/-- The rows' bytes. -/
def bss (L : List RowB) : List (List UInt8) := L.map (·.bs)
theorem bss_get {L : List RowB} {j : Nat} (h : j < L.length) : (bss L).getD j [] = L[j].bs := by simp [bss, List.getD, h]
theorem RowsAt.lens {w : World} {B : Nat} {L : List RowB} (h : RowsAt w B L) : ∀ r ∈ L, r.bs.length = r.n := fun r hr => (h r hr).len
set_option maxHeartbeats 1600000 in
theorem cdSum {w : World} {g gf k m c : Nat} {A : Option Addr} (h : Cdr w g gf k m A c) (L : List RowB) (B : Nat) (A2 : Option Addr) (n c2 : Nat) (hr : Rd w B A2 (L.map RowB.v)) (hR : RowsAt w B L) (hB : B ≤ w.heap.size) (hn : L.length = n) (hn1 : 1 ≤ n) (hn2 : n ≤ 1000)
    (hm : ∀ r ∈ L, r.n ≤ 1000000000) (Af : Option Addr) (cf : Nat) (f : List UInt8) (hf : Rd w B Af (f.map bv)) (hfl : f.length = n) :
    Calls Try.prog 46 #[.pointer (some ⟨g, 0, none⟩), .slice A2 n c2, .func (.func 47) #[.slice Af n cf] #[]] w (NewB (Cod.sumTo f (bss L) (Cod.len0 (bss L)) n) w) := by
  have h0l : 0 < L.length := by omega
  obtain ⟨ad, rfl, hab, hcell0⟩ := hr.row h0l
  rw [addr_add_zero] at hcell0
  have hl0 : Cod.len0 (bss L) = L[0].n := by
    rw [Cod.len0_eq (by simpa [bss] using h0l)]
    have := hR.lens _ (List.getElem_mem h0l)
    simpa [bss] using this
  obtain ⟨W, hW⟩ : ∃ W, Hid (Cod.len0 (bss L) = W) := ⟨_, rfl⟩
  rw [hW.out] at hl0 ⊢
  have hWm : W ≤ 1000000000 := by rw [hl0]; exact hm _ (List.getElem_mem h0l)
  rw [← hl0] at hcell0
  have hmk := makeB W (by omega)
  have HR := Lib.hid hr
  have HRR := Lib.hid hR
  have HM := Lib.hid hm
  have HN := Lib.hid hn
  have HF := Lib.hid hf
  have HFL := Lib.hid hfl
  have HC := Lib.hid h
  generalize L[0].A = A0 at hcell0
  generalize L[0].c = c0 at hcell0
  clear h hr hR hm hn hf hfl hl0 hab h0l
  go_enter Try.func46, Try.ntmps46
  go_wp2
  go_loopw [7, 8, 9, 17] (fun l _ _ i wr => ∃ (q : Nat) (A' : Option Addr) (c' : Nat), i = .int .i64 q ∧ q ≤ n ∧ l = .slice A' W c' ∧ Hid (wr.ownsRow w.heap.size 5 1 (.slice A' W c') W ((Cod.sumTo f (bss L) W q).map bv)) ∧ Hid (Below w.heap.size w wr)) (fun _ _ _ i _ => n - (intOf i).toNat)
  case atStart =>
    refine ⟨0, some ⟨w.heap.size, 0, none⟩, W, rfl, Nat.zero_le _, rfl, ?_, (Below.refl _ _).alloc (Nat.le_refl _) _⟩
    show World.ownsRow _ _ _ _ _ _ _
    rw [Cod.sumTo, List.map_replicate]
    exact own_made w w.heap.size 5 (.int .u8 0) W W (Nat.le_refl _) (Nat.le_refl _) (by unfold maxLen; omega)
  case round =>
    obtain ⟨q, A', c', rfl, hq, rfl, HO, HBr⟩ := hrel
    by_cases hlt : q < n
    · have hql : q < L.length := by rw [HN.out]; exact hlt
      have hC := HC.out.below HBr.out
      have hz := HBr.out.size
      obtain ⟨ad', e0, hab, hcell⟩ := (HR.out.below (HBr.out.mono hB)).row hql
      injection e0 with e0
      subst e0
      have hRq := (HRR.out.get hql).below (HBr.out.mono hB)
      have hmq := HM.out _ (List.getElem_mem hql)
      have hsb : Hid ((bss L).getD q [] = L[q].bs) := (show _ = _ from bss_get hql)
      have hrd := hRq.rd
      have hlen := hRq.len
      have hcap := hRq.cap
      clear hRq
      generalize L[q] = r at *
      obtain ⟨rA, rn, rc, bs⟩ := r
      simp only at hcell hmq hsb hrd hlen hcap
      obtain ⟨x, hx⟩ : ∃ x, Hid ((f.getD q 0).toNat = x) := ⟨_, rfl⟩
      have hx8 : x < 256 := by rw [← hx.out]; exact (f.getD q 0).toNat_lt
      have HOF := Lib.hid (cdOf B Af n cf f q wr.drew ((HF.out.below (HBr.out.mono hB)).drewN 1) HFL.out hlt (by omega))
      rw [hx.out] at HOF
      have HFO := Lib.hid (fldFoldF gf x hx8 rA rc bs A' c' (Cod.sumTo f (bss L) W q) wr.drew hC.full B wr.heap.size hrd (Rd.of_own HO.out) hlen (Cod.sumTo_length _ _ _ _) (Nat.le_trans hB hz) (Nat.le_refl _) hmq hWm hcap)
      have hc2 : wr.drew.cell? ⟨g, 2, none⟩ = some (.pointer (some ⟨gf, 0, none⟩)) := hC.c2
      have HN2 : Hid (foB x bs (Cod.sumTo f (bss L) W q) = Cod.sumTo f (bss L) W (q + 1)) := by
        show _ = _
        rw [Cod.sumTo, hsb.out, hx.out]
      rw [HN2.out] at HFO
      clear hC HO hrd hlen hcap hsb hx HN2
      go_wp2
      go_region_with (first | (go_at_call 47; refine HOF.out.mono ?_; rintro e w' ⟨rfl, rfl⟩) | (go_at_call 63; refine HFO.out.mono ?_; rintro e w' ⟨A1, n1, c1, rfl, hn1, ho1, hb1⟩))
      all_goals
        go_wp2
        obtain rfl : n1 = W := by rw [← hn1, Cod.sumTo_length]
        go_roundw
        case rel => exact ⟨q + 1, A1, c1, by go_num, hlt, rfl, own_lowerB ho1 hz, (below_drewN HBr.out 1).trans (hb1.mono hz)⟩
        case measure => simp [intOf]; omega
    · obtain rfl : q = n := by omega
      go_wp2
      go_ret
      exact ⟨A', W, c', rfl, Cod.sumTo_length _ _ _ _, HO.out, HBr.out⟩
end Cib
