/- The two At's; the document's Turned (the first two walks are printed by genA.py). -/
import Derived.Test.YtnicfpkadiamaaaMatS
set_option linter.unusedVariables false
set_option linter.unusedSimpArgs false
set_option maxRecDepth 40000
namespace Cib
open Go Go.RowKit Go.Proofs
/-- The number at a place, nought where there is none. -/
def atN (r c : Int) (n : Nat) (bs : List UInt8) (i j : Int) : UInt8 := if mr r c n = true ∧ 0 ≤ i ∧ i < r ∧ 0 ≤ j ∧ j < c then bs.getD (i * c + j).toNat 0 else 0
set_option maxHeartbeats 2000000 in
theorem refAt4 (r c : Int) (A : Option Addr) (n k : Nat) (bs : List UInt8) (i j : Int) (w : World) (B : Nat) (hB : B ≤ w.heap.size) (hr : Rd w B A (bs.map bv)) (hn : bs.length = n) (hk : n ≤ k) :
    Calls Try.prog 25 #[.agg (mv r c A n k), .int .i64 i, .int .i64 j] w fun e w' => e = .returned (.int .u8 ((atN r c n bs i j).toNat : Int)) ∧ Below w.heap.size w w' := by
  have hal : Below w.heap.size w (w.alloc (.cells (mv r c A n k) 24)) := (Below.refl _ _).alloc (Nat.le_refl _) _
  have HAL := Lib.hid hal
  have HR := Lib.hid fun W => refRight4 r c A n k W
  obtain ⟨b, hb⟩ : ∃ b, mr r c n = b := ⟨_, rfl⟩
  rw [hb] at HR
  have HM := Lib.hid (Blk.new w 24 (mv r c A n k))
  cases b
  · rw [show atN r c n bs i j = 0 by unfold atN; rw [if_neg (fun e => by rw [hb] at e; exact absurd e.1 (by decide))]]
    unfold mv at HAL HR HM ⊢
    clear hal hb hr hn
    go_enter Try.func25, Try.ntmps25
    go_wp2_with fail
    refine (HR.out _).mono ?_
    rintro e w2 ⟨rfl, hb2⟩
    go_wp2
    go_ret
    exact ⟨rfl, HAL.out.via hb2⟩
  · obtain ⟨hr1, hc1, hp⟩ := mr_true.1 hb
    obtain ⟨R, rfl⟩ : ∃ x : Nat, r = (x : Int) := ⟨r.toNat, by omega⟩
    obtain ⟨C, rfl⟩ : ∃ x : Nat, c = (x : Int) := ⟨c.toNat, by omega⟩
    have hnRC : n = R * C := by
      have : ((n : Nat) : Int) = ((R * C : Nat) : Int) := by rw [hp]; simp
      exact Int.ofNat.inj this
    by_cases hin : 0 ≤ i ∧ i < (R : Int) ∧ 0 ≤ j ∧ j < (C : Int)
    · obtain ⟨hi0, hi1, hj0, hj1⟩ := hin
      obtain ⟨I, rfl⟩ : ∃ x : Nat, i = (x : Int) := ⟨i.toNat, by omega⟩
      obtain ⟨J, rfl⟩ : ∃ x : Nat, j = (x : Int) := ⟨j.toNat, by omega⟩
      have hIR : I < R := by omega
      have hJC : J < C := by omega
      have hlt : I * C + J < R * C := by
        have h0 : (I + 1) * C ≤ R * C := Nat.mul_le_mul_right C hIR
        rw [Nat.succ_mul] at h0
        omega
      have hq : I * C + J < bs.length := by omega
      have hm1 : (I : Int) * (C : Int) = ((I * C : Nat) : Int) := by simp
      have hat : atN (R : Int) (C : Int) n bs (I : Int) (J : Int) = bs[I * C + J] := by
        unfold atN
        rw [if_pos ⟨hb, by omega, by omega, by omega, by omega⟩, hm1, show (((I * C : Nat) : Int) + (J : Int)).toNat = I * C + J by omega]
        exact getD_0 hq
      rw [hat]
      obtain ⟨ad, rfl, hab, hcell⟩ := hr.byte hq
      have HCL := Lib.hid hcell
      have hIC : I * C ≤ 255 * 255 := Nat.mul_le_mul (by omega) (by omega)
      generalize bs[I * C + J] = x at *
      generalize I * C = p at *
      have hx1 : (0 : Int) ≤ (p : Int) + (J : Int) := by omega
      have hx2 : ((p : Int) + (J : Int)).toNat = p + J := by omega
      have hx3 : (p : Int) + (J : Int) < (n : Int) := by omega
      have hx4 : IntKind.i64.wrap ((p : Int) + (J : Int)) = (p : Int) + (J : Int) := by rw [IntKind.wrap_i64]; omega
      unfold mv at HAL HR HM ⊢
      clear hal hb hr hn hat hq hp hlt hcell hnRC
      go_enter Try.func25, Try.ntmps25
      go_wp2_with fail
      refine (HR.out _).mono ?_
      rintro e w2 ⟨rfl, hb2⟩
      have hbw := HAL.out.via hb2
      have hcell := (hbw.cell (p := ad.add (p + J)) (by rw [addr_add_block]; omega)).trans HCL.out
      have hM2 := HM.out.below hb2 HM.out.lt
      have m0 := hM2.cell 0
      have m1 := hM2.cell 1
      have m2 := hM2.cell 2
      simp only [List.getElem?_toArray, List.getElem?_cons_zero, List.getElem?_cons_succ] at m0 m1 m2
      have HBW := Lib.hid hbw
      clear hbw hM2 hb2
      go_wp2
      go_ret
      exact ⟨rfl, HBW.out⟩
    · rw [show atN (R : Int) (C : Int) n bs i j = 0 by unfold atN; rw [if_neg (fun e => hin ⟨e.2.1, e.2.2.1, e.2.2.2.1, e.2.2.2.2⟩)]]
      unfold mv at HAL HR HM ⊢
      clear hal hb hr hn hp hnRC
      by_cases h0 : i < 0
      · clear hin
        go_enter Try.func25, Try.ntmps25
        go_wp2_with fail
        refine (HR.out _).mono ?_
        rintro e w2 ⟨rfl, hb2⟩
        have hM2 := HM.out.below hb2 HM.out.lt
        have m0 := hM2.cell 0
        have m1 := hM2.cell 1
        simp only [List.getElem?_toArray, List.getElem?_cons_zero, List.getElem?_cons_succ] at m0 m1
        have HBW := Lib.hid (HAL.out.via hb2)
        clear hb2 hM2
        go_wp2
        go_ret
        exact ⟨rfl, HBW.out⟩
      by_cases h1 : (R : Int) ≤ i
      · clear hin
        go_enter Try.func25, Try.ntmps25
        go_wp2_with fail
        refine (HR.out _).mono ?_
        rintro e w2 ⟨rfl, hb2⟩
        have hM2 := HM.out.below hb2 HM.out.lt
        have m0 := hM2.cell 0
        have m1 := hM2.cell 1
        simp only [List.getElem?_toArray, List.getElem?_cons_zero, List.getElem?_cons_succ] at m0 m1
        have HBW := Lib.hid (HAL.out.via hb2)
        clear hb2 hM2
        go_wp2
        go_ret
        exact ⟨rfl, HBW.out⟩
      by_cases h2 : j < 0
      · clear hin
        go_enter Try.func25, Try.ntmps25
        go_wp2_with fail
        refine (HR.out _).mono ?_
        rintro e w2 ⟨rfl, hb2⟩
        have hM2 := HM.out.below hb2 HM.out.lt
        have m0 := hM2.cell 0
        have m1 := hM2.cell 1
        simp only [List.getElem?_toArray, List.getElem?_cons_zero, List.getElem?_cons_succ] at m0 m1
        have HBW := Lib.hid (HAL.out.via hb2)
        clear hb2 hM2
        go_wp2
        go_ret
        exact ⟨rfl, HBW.out⟩
      have h3 : (C : Int) ≤ j := by omega
      clear hin
      go_enter Try.func25, Try.ntmps25
      go_wp2_with fail
      refine (HR.out _).mono ?_
      rintro e w2 ⟨rfl, hb2⟩
      have hM2 := HM.out.below hb2 HM.out.lt
      have m0 := hM2.cell 0
      have m1 := hM2.cell 1
      simp only [List.getElem?_toArray, List.getElem?_cons_zero, List.getElem?_cons_succ] at m0 m1
      have HBW := Lib.hid (HAL.out.via hb2)
      clear hb2 hM2
      go_wp2
      go_ret
      exact ⟨rfl, HBW.out⟩
set_option maxHeartbeats 2000000 in
theorem matAt (r c : Int) (A : Option Addr) (n k : Nat) (bs : List UInt8) (i j : Int) (w : World) (B : Nat) (hB : B ≤ w.heap.size) (hr : Rd w B A (bs.map bv)) (hn : bs.length = n) (hk : n ≤ k) (hn2 : n ≤ 140737488355328) :
    Calls Try.prog 24 #[.agg (mv r c A n k), .int .i64 i, .int .i64 j] w fun e w' => e = .returned (.int .u8 ((atN r c n bs i j).toNat : Int)) ∧ Below w.heap.size w w' := by
  have hal : Below w.heap.size w (w.alloc (.cells (mv r c A n k) 24)) := (Below.refl _ _).alloc (Nat.le_refl _) _
  have HAL := Lib.hid hal
  have HR := Lib.hid fun W => matRight r c A n k hn2 W
  obtain ⟨b, hb⟩ : ∃ b, mr r c n = b := ⟨_, rfl⟩
  rw [hb] at HR
  have HM := Lib.hid (Blk.new w 24 (mv r c A n k))
  cases b
  · rw [show atN r c n bs i j = 0 by unfold atN; rw [if_neg (fun e => by rw [hb] at e; exact absurd e.1 (by decide))]]
    unfold mv at HAL HR HM ⊢
    clear hal hb hr hn
    go_enter Try.func24, Try.ntmps24
    go_wp2_with fail
    refine (HR.out _).mono ?_
    rintro e w2 ⟨rfl, hb2⟩
    go_wp2
    go_ret
    exact ⟨rfl, HAL.out.via hb2⟩
  · obtain ⟨hr1, hc1, hp⟩ := mr_true.1 hb
    obtain ⟨R, rfl⟩ : ∃ x : Nat, r = (x : Int) := ⟨r.toNat, by omega⟩
    obtain ⟨C, rfl⟩ : ∃ x : Nat, c = (x : Int) := ⟨c.toNat, by omega⟩
    have hnRC : n = R * C := by
      have : ((n : Nat) : Int) = ((R * C : Nat) : Int) := by rw [hp]; simp
      exact Int.ofNat.inj this
    by_cases hin : 0 ≤ i ∧ i < (R : Int) ∧ 0 ≤ j ∧ j < (C : Int)
    · obtain ⟨hi0, hi1, hj0, hj1⟩ := hin
      obtain ⟨I, rfl⟩ : ∃ x : Nat, i = (x : Int) := ⟨i.toNat, by omega⟩
      obtain ⟨J, rfl⟩ : ∃ x : Nat, j = (x : Int) := ⟨j.toNat, by omega⟩
      have hIR : I < R := by omega
      have hJC : J < C := by omega
      have hlt : I * C + J < R * C := by
        have h0 : (I + 1) * C ≤ R * C := Nat.mul_le_mul_right C hIR
        rw [Nat.succ_mul] at h0
        omega
      have hq : I * C + J < bs.length := by omega
      have hm1 : (I : Int) * (C : Int) = ((I * C : Nat) : Int) := by simp
      have hat : atN (R : Int) (C : Int) n bs (I : Int) (J : Int) = bs[I * C + J] := by
        unfold atN
        rw [if_pos ⟨hb, by omega, by omega, by omega, by omega⟩, hm1, show (((I * C : Nat) : Int) + (J : Int)).toNat = I * C + J by omega]
        exact getD_0 hq
      rw [hat]
      have hrow := cut_row hr (r := R) (c := C) (i := I) (by rw [hn]; exact hnRC) hIR
      have hrl := Lin.rowOf_length (c := C) (r := R) (i := I) (A := bs) (by rw [hn]; exact hnRC) hIR
      have hg := Lin.rowOf_get (c := C) (i := I) (A := bs) hJC
      unfold Lin.fl at hg
      rw [getD_0 hq, getD_0 (by rw [hrl]; exact hJC)] at hg
      have HRW := Lib.hid fun W => matRow A n k C I (by omega) (by rw [hnRC]; exact Nat.mul_le_mul_right C hIR) (by omega) hk W
      obtain ⟨ad, hA, hab, hcell⟩ := hrow.byte (k := J) (by rw [hrl]; exact hJC)
      rw [hg] at hcell
      rw [hA] at HRW
      have HCL := Lib.hid hcell
      generalize bs[I * C + J] = x at *
      unfold mv at HAL HR HM ⊢
      clear hal hb hr hn hat hq hp hlt hcell hnRC hrow hrl hg hA hm1
      go_enter Try.func24, Try.ntmps24
      go_wp2_with fail
      refine (HR.out _).mono ?_
      rintro e w2 ⟨rfl, hb2⟩
      have hbw := HAL.out.via hb2
      have hcell := (hbw.cell (p := ad.add J) (by rw [addr_add_block]; omega)).trans HCL.out
      have hM2 := HM.out.below hb2 HM.out.lt
      have m0 := hM2.cell 0
      have m1 := hM2.cell 1
      have m2 := hM2.cell 2
      simp only [List.getElem?_toArray, List.getElem?_cons_zero, List.getElem?_cons_succ] at m0 m1 m2
      have HBW := Lib.hid hbw
      clear hbw hM2 hb2
      go_wp2_with fail
      refine (HRW.out _).mono ?_
      rintro e w3 ⟨rfl, rfl⟩
      go_wp2
      go_ret
      exact ⟨rfl, HBW.out⟩
    · rw [show atN (R : Int) (C : Int) n bs i j = 0 by unfold atN; rw [if_neg (fun e => hin ⟨e.2.1, e.2.2.1, e.2.2.2.1, e.2.2.2.2⟩)]]
      unfold mv at HAL HR HM ⊢
      clear hal hb hr hn hp hnRC
      by_cases h0 : i < 0
      · clear hin
        go_enter Try.func24, Try.ntmps24
        go_wp2_with fail
        refine (HR.out _).mono ?_
        rintro e w2 ⟨rfl, hb2⟩
        have hM2 := HM.out.below hb2 HM.out.lt
        have m0 := hM2.cell 0
        have m1 := hM2.cell 1
        simp only [List.getElem?_toArray, List.getElem?_cons_zero, List.getElem?_cons_succ] at m0 m1
        have HBW := Lib.hid (HAL.out.via hb2)
        clear hb2 hM2
        go_wp2
        go_ret
        exact ⟨rfl, HBW.out⟩
      by_cases h1 : (R : Int) ≤ i
      · clear hin
        go_enter Try.func24, Try.ntmps24
        go_wp2_with fail
        refine (HR.out _).mono ?_
        rintro e w2 ⟨rfl, hb2⟩
        have hM2 := HM.out.below hb2 HM.out.lt
        have m0 := hM2.cell 0
        have m1 := hM2.cell 1
        simp only [List.getElem?_toArray, List.getElem?_cons_zero, List.getElem?_cons_succ] at m0 m1
        have HBW := Lib.hid (HAL.out.via hb2)
        clear hb2 hM2
        go_wp2
        go_ret
        exact ⟨rfl, HBW.out⟩
      by_cases h2 : j < 0
      · clear hin
        go_enter Try.func24, Try.ntmps24
        go_wp2_with fail
        refine (HR.out _).mono ?_
        rintro e w2 ⟨rfl, hb2⟩
        have hM2 := HM.out.below hb2 HM.out.lt
        have m0 := hM2.cell 0
        have m1 := hM2.cell 1
        simp only [List.getElem?_toArray, List.getElem?_cons_zero, List.getElem?_cons_succ] at m0 m1
        have HBW := Lib.hid (HAL.out.via hb2)
        clear hb2 hM2
        go_wp2
        go_ret
        exact ⟨rfl, HBW.out⟩
      have h3 : (C : Int) ≤ j := by omega
      clear hin
      go_enter Try.func24, Try.ntmps24
      go_wp2_with fail
      refine (HR.out _).mono ?_
      rintro e w2 ⟨rfl, hb2⟩
      have hM2 := HM.out.below hb2 HM.out.lt
      have m0 := hM2.cell 0
      have m1 := hM2.cell 1
      simp only [List.getElem?_toArray, List.getElem?_cons_zero, List.getElem?_cons_succ] at m0 m1
      have HBW := Lib.hid (HAL.out.via hb2)
      clear hb2 hM2
      go_wp2
      go_ret
      exact ⟨rfl, HBW.out⟩
theorem atN_in {r c i j : Nat} {bs : List UInt8} (hb : mr (r : Int) (c : Int) (r * c) = true) (hi : i < r) (hj : j < c) : atN (r : Int) (c : Int) (r * c) bs (i : Int) (j : Int) = Lin.fl c bs i j := by
  unfold atN Lin.fl
  rw [if_pos ⟨hb, by omega, by omega, by omega, by omega⟩]
  have e : ((i : Int) * (c : Int) + (j : Int)).toNat = i * c + j := by
    have : (i : Int) * (c : Int) = ((i * c : Nat) : Int) := by simp
    rw [this]
    omega
  rw [e]
/-- A matrix that is being made byte by byte, in a variable of the call's own. -/
structure TuI (w : World) (go : Nat) (rows cols : Int) (F : List UInt8) (q : Nat) (A : Option Addr) (c : Nat) (wr : World) : Prop where
  blk : Blk wr go 24 (mv rows cols A q c)
  own : wr.ownsRow w.heap.size 5 1 (.slice A q c) q ((F.take q).map bv)
  below : Below w.heap.size w wr
  hgo : w.heap.size ≤ go
section
variable {w wr w2 w3 : World} {go : Nat} {rows cols : Int} {F : List UInt8} {q : Nat} {A : Option Addr} {c : Nat}
theorem TuI.via (h : TuI w go rows cols F q A c wr) (hb : Below wr.heap.size wr w2) : TuI w go rows cols F q A c w2 := ⟨h.blk.below hb h.blk.lt, own_belowS h.own hb, h.below.via hb, h.hgo⟩
/-- Another block stays as it is where a byte is put behind. -/
theorem TuI.kept (h : TuI w go rows cols F q A c wr) {b : Value} (hg : (wr.alloc (.cells #[b] 5)).grownBy w3 (Value.slice A q c).ownBlock) {k t cs} (hk : Blk wr k t cs) (ht : t ≠ 5) : Blk w3 k t cs := by
  have hal : Below wr.heap.size wr (wr.alloc (.cells #[b] 5)) := (Below.refl _ _).alloc (Nat.le_refl _) _
  exact (hk.alloc _).same (Same.grown (ts := [5]) (own_belowS h.own hal) hg (by decide)) (by intro hm; rw [List.mem_singleton] at hm; exact ht hm)
theorem TuI.push (h : TuI w go rows cols F q A c wr) {x : UInt8} (hx : F[q]? = some x) {b : Value} (hb : b = bv x) {A3 : Option Addr} {c3 : Nat}
    (ho : w3.ownsRow w.heap.size 5 1 (.slice A3 (q + 1) c3) (q + 1) ((F.take q).map bv ++ [b])) (hg : (wr.alloc (.cells #[b] 5)).grownBy w3 (Value.slice A q c).ownBlock) :
    TuI w go rows cols F (q + 1) A3 c3 (w3.setCell ⟨go, 0 + 2, none⟩ (.slice A3 (q + 1) c3)) := by
  have hal : Below wr.heap.size wr (wr.alloc (.cells #[b] 5)) := (Below.refl _ _).alloc (Nat.le_refl _) _
  have hB := h.kept hg h.blk (by decide)
  have h1 := h.via hal
  have hbw : Below w.heap.size w w3 := h1.below.grown hg h1.below.size fun k hk => (h1.own.lt k hk).1
  subst hb
  obtain ⟨hq, hqx⟩ := List.getElem?_eq_some_iff.1 hx
  refine ⟨hB.set 2 _, ?_, hbw.setCell (p := ⟨go, 0 + 2, none⟩) h.hgo _, h.hgo⟩
  rw [List.take_succ_eq_append_getElem hq, hqx, List.map_append]
  refine ownsRow_setCell_other ho (fun he => ?_) _
  have := Ty.one (own_blockV ho he).1 hB.ty
  exact absurd this (by decide)
/-- Another block, behind a byte that was put behind and noted. -/
theorem TuI.other (h : TuI w go rows cols F q A c wr) {b : Value} (hg : (wr.alloc (.cells #[b] 5)).grownBy w3 (Value.slice A q c).ownBlock) {k t cs} (hk : Blk wr k t cs) (ht : t ≠ 5) (hne : k ≠ go) (v : Value) : Blk (w3.setCell ⟨go, 0 + 2, none⟩ v) k t cs :=
  (h.kept hg hk ht).far (p := ⟨go, 0 + 2, none⟩) hne v
end
end Cib
