/- Texts that are in use elsewhere, put together. -/
import Derived.Test.YthlpcghoijgeiaaLoD
import Derived.Test.YthlpcghoijgeiaaLoB
import Derived.Test.YthlpcghoijgeiaaLoC
/-! MatK -/
section
set_option linter.unusedVariables false
set_option linter.unusedSimpArgs false
set_option maxRecDepth 40000
namespace Cib
open Go Go.RowKit Go.Proofs
end Cib

end
/-! MatR -/
section
set_option linter.unusedVariables false
set_option linter.unusedSimpArgs false
set_option maxRecDepth 40000
namespace Cib
open Go Go.RowKit Go.Proofs
/-- The same matrix? -/
def smB (r c : Int) (bs : List UInt8) (r' c' : Int) (bs' : List UInt8) : Bool := decide (r = r' ∧ c = c' ∧ bs = bs')
/-- The place of a row's first number that isn't nought, -1 where there is none. -/
def fstZ (row : List UInt8) : Int := match Lin.fstN row with | some a => a | none => -1
theorem fstN_here {row : List UInt8} {j : Nat} (hj : j < row.length) (h : ∀ i, i < j → row.getD i 0 = 0) (hne : row[j] ≠ 0) : Lin.fstN row = some j := by
  unfold Lin.fstN
  rw [List.findIdx?_eq_some_iff_getElem]
  refine ⟨hj, by simpa using hne, fun i hi => ?_⟩
  have := h i hi
  rw [getD_0 (by omega)] at this
  simp [this]
theorem fstN_no {row : List UInt8} (h : ∀ i, i < row.length → row.getD i 0 = 0) : Lin.fstN row = none := by
  unfold Lin.fstN
  rw [List.findIdx?_eq_none_iff]
  intro x hx
  obtain ⟨i, hi, rfl⟩ := List.getElem_of_mem hx
  have := h i hi
  rw [getD_0 hi] at this
  simp [this]
end Cib

end
/-! FldH -/
section
set_option linter.unusedVariables false
set_option linter.unusedSimpArgs false
set_option maxRecDepth 20000
namespace Cib
open Go Go.RowKit Go.Proofs

theorem scB_next (c : Nat) (row : List UInt8) {k : Nat} (h : k < row.length) : scB c (row.take (k + 1)) = scB c (row.take k) ++ [UInt8.ofNat (Fld.gmul c row[k].toNat)] := by
  unfold scB
  rw [List.take_succ_eq_append_getElem h, List.map_append]
  rfl
theorem foB_next2 {c : Nat} {row into : List UInt8} {k : Nat} (h : k < into.length) : (foB c row into).take (k + 1) = (foB c row into).take k ++ [UInt8.ofNat (into[k].toNat ^^^ Fld.gmul c (row.getD k 0).toNat)] := by
  have h' : k < (foB c row into).length := by rw [foB_length]; exact h
  rw [List.take_succ_eq_append_getElem h', foB_get h]
end Cib

end
/-! MatS -/
section
set_option linter.unusedVariables false
set_option linter.unusedSimpArgs false
set_option maxRecDepth 40000
namespace Cib
open Go Go.RowKit Go.Proofs
theorem row_rd {w : World} {B : Nat} {A : Option Addr} {bs : List UInt8} (hr : Rd w B A (bs.map bv)) {r c k i : Nat} (hl : bs.length = r * c) (hk : r * c ≤ k) (hi : i < r) : Rd w B (cut A k (i * c)) ((Lin.rowOf c bs i).map bv) := by
  have hle : (i + 1) * c ≤ r * c := Nat.mul_le_mul_right c hi
  rw [Nat.succ_mul] at hle
  have h2 := hr.cut (c := k) (k := i * c) (by simp; omega) (by simp; omega)
  have e : (Lin.rowOf c bs i).map bv = ((bs.map bv).drop (i * c)).take c := by
    rw [← List.map_drop, ← List.map_take]
    rfl
  rw [e]
  exact h2.take c
theorem red1_none {K row : List UInt8} (h : fstZ K < 0) : Lin.red1 K row = row := by
  unfold fstZ at h
  unfold Lin.red1
  split at h
  · omega
  · rename_i e
    rw [e]
theorem fstZ_some {K : List UInt8} (h : ¬ fstZ K < 0) : ∃ a : Nat, fstZ K = (a : Int) ∧ Lin.fstN K = some a := by
  unfold fstZ at h ⊢
  split at h
  · rename_i a e
    exact ⟨a, by simp, e⟩
  · omega
theorem red1_some {K row : List UInt8} {a : Nat} (h : Lin.fstN K = some a) : Lin.red1 K row = if row.getD a 0 ≠ 0 then foB (Fld.gdiv (row.getD a 0).toNat (K.getD a 0).toNat) K row else row := by
  unfold Lin.red1
  rw [h]
theorem fstZ_neg {row : List UInt8} : fstZ row < 0 ↔ Lin.fstN row = none := by
  unfold fstZ
  split
  · rename_i a e
    rw [e]
    constructor
    · intro h
      omega
    · intro h
      cases h
  · rename_i e
    rw [e]
    simp
/-- Rank under way: the kept rows. -/
structure RkI (w : World) (r : Int) (c : Nat) (A : Option Addr) (n k : Nat) (p : Nat) (A' : Option Addr) (c' : Nat) (L : List RowB) (wr : World) : Prop where
  own : wr.ownsRow w.heap.size 22 1 (.slice A' p c') p (L.map RowB.v)
  rows : ∀ x ∈ L, wr.ownsRow w.heap.size 5 1 (.slice x.A x.n x.c) x.n (x.bs.map bv)
  wid : ∀ x ∈ L, x.n = c
  mat : Blk wr w.heap.size 45 (mv r c A n k)
  below : Below w.heap.size w wr
theorem RkI.via {w wr w' : World} {r : Int} {c : Nat} {A : Option Addr} {n k p : Nat} {A' : Option Addr} {c' : Nat} {L : List RowB} (h : RkI w r c A n k p A' c' L wr) (hb : Below wr.heap.size wr w') : RkI w r c A n k p A' c' L w' :=
  ⟨own_belowS h.own hb, fun x hx => own_belowS (h.rows x hx) hb, h.wid, h.mat.below hb h.mat.lt, h.below.via hb⟩
theorem RkI.push {w wr w4 : World} {r : Int} {c : Nat} {A : Option Addr} {n k p : Nat} {A' : Option Addr} {c' : Nat} {L : List RowB} (h : RkI w r c A n k p A' c' L wr) {x : RowB} (hx : wr.ownsRow w.heap.size 5 1 (.slice x.A x.n x.c) x.n (x.bs.map bv)) (hn : x.n = c)
    {A4 : Option Addr} {c4 : Nat} (ho4 : w4.ownsRow w.heap.size 22 1 (.slice A4 (p + 1) c4) (p + 1) (L.map RowB.v ++ [x.v])) (hg4 : (wr.alloc (.cells #[x.v] 22)).grownBy w4 (Value.slice A' p c').ownBlock) :
    RkI w r c A n k (p + 1) A4 c4 (L ++ [x]) w4 := by
  have hal : Below wr.heap.size wr (wr.alloc (.cells #[x.v] 22)) := (Below.refl _ _).alloc (Nat.le_refl _) _
  have h1 := h.via hal
  have hs : Same [22] (wr.alloc (.cells #[x.v] 22)) w4 := Same.grown h1.own hg4 (by decide)
  refine ⟨by rw [List.map_append]; exact ho4, fun y hy => ?_, fun y hy => ?_, h1.mat.same hs (by decide), h1.below.grown hg4 h1.below.size fun k hk => (h1.own.lt k hk).1⟩
  · rcases List.mem_append.1 hy with hy | hy
    · exact own_same (h1.rows y hy) hs (by decide)
    · rw [List.mem_singleton] at hy
      subst hy
      exact own_same (own_belowS hx hal) hs (by decide)
  · rcases List.mem_append.1 hy with hy | hy
    · exact h.wid y hy
    · rw [List.mem_singleton] at hy
      subst hy
      exact hn
theorem RkI.at {w wr : World} {r : Int} {c : Nat} {A : Option Addr} {n k p : Nat} {A' : Option Addr} {c' : Nat} {L : List RowB} (h : RkI w r c A n k p A' c' L wr) {t : Nat} (ht : t < L.length) : L[t].At wr wr.heap.size :=
  have ho := h.rows _ (List.getElem_mem ht)
  ⟨Rd.of_own ho, by simpa using own_len ho, (own_cap ho).1, (own_cap ho).2⟩
/-- append to a row of bytes of the call's own, apart from the kept ones. -/
theorem RkI.grownB {w wr w5 : World} {r : Int} {c : Nat} {A : Option Addr} {n k p : Nat} {A' : Option Addr} {c' : Nat} {L : List RowB} (h : RkI w r c A n k p A' c' L wr) {b : Nat} {v : Value} {m : Nat} {xs : List Value} (ho : wr.ownsRow b 5 1 v m xs) (hg : wr.grownBy w5 v.ownBlock) (hb : w.heap.size ≤ b) (hfresh : ∀ x ∈ L, ∀ j, (Value.slice x.A x.n x.c).ownBlock = some j → v.ownBlock ≠ some j) : RkI w r c A n k p A' c' L w5 := by
  have hs : Same [5] wr w5 := Same.grown ho hg (by decide)
  refine ⟨own_same h.own hs (by decide), fun x hx => ?_, h.wid, h.mat.same hs (by decide), h.below.grown hg h.below.size fun j hj => Nat.le_trans hb (ho.lt j hj).1⟩
  have hx' := h.rows x hx
  refine ⟨hx'.1, ?_⟩
  rcases hx'.2 with h0 | ⟨g, cap, cur, hv, h1, h2, h3⟩
  · exact .inl h0
  · exact .inr ⟨g, cap, cur, hv, h1, (hg.block g (Array.getElem?_eq_some_iff.1 h2).1 (fun e => hfresh x hx g (by rw [hv]; rfl) e.symm)).trans h2, h3⟩
/-- A row from which the first kept ones were taken away. -/
structure RrI (w : World) (r : Int) (c : Nat) (A : Option Addr) (n k : Nat) (p : Nat) (A' : Option Addr) (c' : Nat) (L : List RowB) (Ar : Option Addr) (kr : Nat) (rb : List UInt8) (wr : World) : Prop where
  rk : RkI w r c A n k p A' c' L wr
  own : wr.ownsRow w.heap.size 5 1 (.slice Ar c kr) c (rb.map bv)
theorem keptF_wid {r c : Nat} {bs : List UInt8} (hl : bs.length = r * c) {i : Nat} (hi : i ≤ r) : (Lin.keptF c bs i).length ≤ i := by
  induction i with
  | zero => exact Nat.le_refl _
  | succ i ih =>
    have := ih (by omega)
    show (Lin.keepF _ _).length ≤ _
    unfold Lin.keepF
    split
    · omega
    · simp
      omega
end Cib

end
/-! MatV -/
section
set_option linter.unusedVariables false
set_option linter.unusedSimpArgs false
set_option maxRecDepth 40000
namespace Cib
open Go Go.RowKit Go.Proofs
/-- The number at a place, nought where there is none. -/
def atN (r c : Int) (n : Nat) (bs : List UInt8) (i j : Int) : UInt8 := if mr r c n = true ∧ 0 ≤ i ∧ i < r ∧ 0 ≤ j ∧ j < c then bs.getD (i * c + j).toNat 0 else 0
set_option maxHeartbeats 2000000 in
theorem matAtV (r c : Int) (A : Option Addr) (n k : Nat) (bs : List UInt8) (i j : Int) (w : World) (B : Nat) (hB : B ≤ w.heap.size) (hr : Rd w B A (bs.map bv)) (hn : bs.length = n) (hk : n ≤ k) (hn2 : n ≤ 140737488355328) :
    Calls Try.prog 51 #[.agg (mv r c A n k), .int .i64 i, .int .i64 j] w fun e w' => e = .returned (.int .u8 ((atN r c n bs i j).toNat : Int)) ∧ Below w.heap.size w w' := by
  have hal : Below w.heap.size w (w.alloc (.cells (mv r c A n k) 45)) := (Below.refl _ _).alloc (Nat.le_refl _) _
  have HAL := Lib.hid hal
  have HR := Lib.hid fun W => matRight r c A n k hn2 W
  obtain ⟨b, hb⟩ : ∃ b, mr r c n = b := ⟨_, rfl⟩
  rw [hb] at HR
  have HM := Lib.hid (Blk.new w 45 (mv r c A n k))
  cases b
  · rw [show atN r c n bs i j = 0 by unfold atN; rw [if_neg (fun e => by rw [hb] at e; exact absurd e.1 (by decide))]]
    unfold mv at HAL HR HM ⊢
    clear hal hb hr hn
    go_enter Try.func51, Try.ntmps51
    go_wp2_with fail
    refine (HR.out _).mono ?_
    rintro e w2 ⟨rfl, hb2⟩
    go_wp2
    go_ret
    exact ⟨rfl, HAL.out.via hb2⟩
  · obtain ⟨hr1, hc1, hp⟩ := mr_true.1 hb
    obtain ⟨R, rfl⟩ : ∃ x : Nat, r = (x : Int) := ⟨r.toNat, by omega⟩
    obtain ⟨C, rfl⟩ : ∃ x : Nat, c = (x : Int) := ⟨c.toNat, by omega⟩
    have hnRC : n = R * C := by
      have : ((n : Nat) : Int) = ((R * C : Nat) : Int) := by rw [hp]; simp
      exact Int.ofNat.inj this
    by_cases hin : 0 ≤ i ∧ i < (R : Int) ∧ 0 ≤ j ∧ j < (C : Int)
    · obtain ⟨hi0, hi1, hj0, hj1⟩ := hin
      obtain ⟨I, rfl⟩ : ∃ x : Nat, i = (x : Int) := ⟨i.toNat, by omega⟩
      obtain ⟨J, rfl⟩ : ∃ x : Nat, j = (x : Int) := ⟨j.toNat, by omega⟩
      have hIR : I < R := by omega
      have hJC : J < C := by omega
      have hlt : I * C + J < R * C := by
        have h0 : (I + 1) * C ≤ R * C := Nat.mul_le_mul_right C hIR
        rw [Nat.succ_mul] at h0
        omega
      have hq : I * C + J < bs.length := by omega
      have hm1 : (I : Int) * (C : Int) = ((I * C : Nat) : Int) := by simp
      have hat : atN (R : Int) (C : Int) n bs (I : Int) (J : Int) = bs[I * C + J] := by
        unfold atN
        rw [if_pos ⟨hb, by omega, by omega, by omega, by omega⟩, hm1, show (((I * C : Nat) : Int) + (J : Int)).toNat = I * C + J by omega]
        exact getD_0 hq
      rw [hat]
      have hrow := cut_row hr (r := R) (c := C) (i := I) (by rw [hn]; exact hnRC) hIR
      have hrl := Lin.rowOf_length (c := C) (r := R) (i := I) (A := bs) (by rw [hn]; exact hnRC) hIR
      have hg := Lin.rowOf_get (c := C) (i := I) (A := bs) hJC
      unfold Lin.fl at hg
      rw [getD_0 hq, getD_0 (by rw [hrl]; exact hJC)] at hg
      have HRW := Lib.hid fun W => matRow A n k C I (by omega) (by rw [hnRC]; exact Nat.mul_le_mul_right C hIR) (by omega) hk W
      obtain ⟨ad, hA, hab, hcell⟩ := hrow.byte (k := J) (by rw [hrl]; exact hJC)
      rw [hg] at hcell
      rw [hA] at HRW
      have HCL := Lib.hid hcell
      generalize bs[I * C + J] = x at *
      unfold mv at HAL HR HM ⊢
      clear hal hb hr hn hat hq hp hlt hcell hnRC hrow hrl hg hA hm1
      go_enter Try.func51, Try.ntmps51
      go_wp2_with fail
      refine (HR.out _).mono ?_
      rintro e w2 ⟨rfl, hb2⟩
      have hbw := HAL.out.via hb2
      have hcell := (hbw.cell (p := ad.add J) (by rw [addr_add_block]; omega)).trans HCL.out
      have hM2 := HM.out.below hb2 HM.out.lt
      have m0 := hM2.cell 0
      have m1 := hM2.cell 1
      have m2 := hM2.cell 2
      simp only [List.getElem?_toArray, List.getElem?_cons_zero, List.getElem?_cons_succ] at m0 m1 m2
      have HBW := Lib.hid hbw
      clear hbw hM2 hb2
      go_wp2_with fail
      refine (HRW.out _).mono ?_
      rintro e w3 ⟨rfl, rfl⟩
      go_wp2
      go_ret
      exact ⟨rfl, HBW.out⟩
    · rw [show atN (R : Int) (C : Int) n bs i j = 0 by unfold atN; rw [if_neg (fun e => hin ⟨e.2.1, e.2.2.1, e.2.2.2.1, e.2.2.2.2⟩)]]
      unfold mv at HAL HR HM ⊢
      clear hal hb hr hn hp hnRC
      by_cases h0 : i < 0
      · clear hin
        go_enter Try.func51, Try.ntmps51
        go_wp2_with fail
        refine (HR.out _).mono ?_
        rintro e w2 ⟨rfl, hb2⟩
        have hM2 := HM.out.below hb2 HM.out.lt
        have m0 := hM2.cell 0
        have m1 := hM2.cell 1
        simp only [List.getElem?_toArray, List.getElem?_cons_zero, List.getElem?_cons_succ] at m0 m1
        have HBW := Lib.hid (HAL.out.via hb2)
        clear hb2 hM2
        go_wp2
        go_ret
        exact ⟨rfl, HBW.out⟩
      by_cases h1 : (R : Int) ≤ i
      · clear hin
        go_enter Try.func51, Try.ntmps51
        go_wp2_with fail
        refine (HR.out _).mono ?_
        rintro e w2 ⟨rfl, hb2⟩
        have hM2 := HM.out.below hb2 HM.out.lt
        have m0 := hM2.cell 0
        have m1 := hM2.cell 1
        simp only [List.getElem?_toArray, List.getElem?_cons_zero, List.getElem?_cons_succ] at m0 m1
        have HBW := Lib.hid (HAL.out.via hb2)
        clear hb2 hM2
        go_wp2
        go_ret
        exact ⟨rfl, HBW.out⟩
      by_cases h2 : j < 0
      · clear hin
        go_enter Try.func51, Try.ntmps51
        go_wp2_with fail
        refine (HR.out _).mono ?_
        rintro e w2 ⟨rfl, hb2⟩
        have hM2 := HM.out.below hb2 HM.out.lt
        have m0 := hM2.cell 0
        have m1 := hM2.cell 1
        simp only [List.getElem?_toArray, List.getElem?_cons_zero, List.getElem?_cons_succ] at m0 m1
        have HBW := Lib.hid (HAL.out.via hb2)
        clear hb2 hM2
        go_wp2
        go_ret
        exact ⟨rfl, HBW.out⟩
      have h3 : (C : Int) ≤ j := by omega
      clear hin
      go_enter Try.func51, Try.ntmps51
      go_wp2_with fail
      refine (HR.out _).mono ?_
      rintro e w2 ⟨rfl, hb2⟩
      have hM2 := HM.out.below hb2 HM.out.lt
      have m0 := hM2.cell 0
      have m1 := hM2.cell 1
      simp only [List.getElem?_toArray, List.getElem?_cons_zero, List.getElem?_cons_succ] at m0 m1
      have HBW := Lib.hid (HAL.out.via hb2)
      clear hb2 hM2
      go_wp2
      go_ret
      exact ⟨rfl, HBW.out⟩
theorem atN_in {r c i j : Nat} {bs : List UInt8} (hb : mr (r : Int) (c : Int) (r * c) = true) (hi : i < r) (hj : j < c) : atN (r : Int) (c : Int) (r * c) bs (i : Int) (j : Int) = Lin.fl c bs i j := by
  unfold atN Lin.fl
  rw [if_pos ⟨hb, by omega, by omega, by omega, by omega⟩]
  have e : ((i : Int) * (c : Int) + (j : Int)).toNat = i * c + j := by
    have : (i : Int) * (c : Int) = ((i * c : Nat) : Int) := by simp
    rw [this]
    omega
  rw [e]
/-- A matrix that is being made byte by byte, in a variable of the call's own. -/
structure TuI (w : World) (go : Nat) (rows cols : Int) (F : List UInt8) (q : Nat) (A : Option Addr) (c : Nat) (wr : World) : Prop where
  blk : Blk wr go 45 (mv rows cols A q c)
  own : wr.ownsRow w.heap.size 5 1 (.slice A q c) q ((F.take q).map bv)
  below : Below w.heap.size w wr
  hgo : w.heap.size ≤ go
section
variable {w wr w2 w3 : World} {go : Nat} {rows cols : Int} {F : List UInt8} {q : Nat} {A : Option Addr} {c : Nat}
theorem TuI.via (h : TuI w go rows cols F q A c wr) (hb : Below wr.heap.size wr w2) : TuI w go rows cols F q A c w2 := ⟨h.blk.below hb h.blk.lt, own_belowS h.own hb, h.below.via hb, h.hgo⟩
/-- Another block stays as it is where a byte is put behind. -/
theorem TuI.kept (h : TuI w go rows cols F q A c wr) {b : Value} (hg : (wr.alloc (.cells #[b] 5)).grownBy w3 (Value.slice A q c).ownBlock) {k t cs} (hk : Blk wr k t cs) (ht : t ≠ 5) : Blk w3 k t cs := by
  have hal : Below wr.heap.size wr (wr.alloc (.cells #[b] 5)) := (Below.refl _ _).alloc (Nat.le_refl _) _
  exact (hk.alloc _).same (Same.grown (ts := [5]) (own_belowS h.own hal) hg (by decide)) (by intro hm; rw [List.mem_singleton] at hm; exact ht hm)
theorem TuI.push (h : TuI w go rows cols F q A c wr) {x : UInt8} (hx : F[q]? = some x) {b : Value} (hb : b = bv x) {A3 : Option Addr} {c3 : Nat}
    (ho : w3.ownsRow w.heap.size 5 1 (.slice A3 (q + 1) c3) (q + 1) ((F.take q).map bv ++ [b])) (hg : (wr.alloc (.cells #[b] 5)).grownBy w3 (Value.slice A q c).ownBlock) :
    TuI w go rows cols F (q + 1) A3 c3 (w3.setCell ⟨go, 0 + 2, none⟩ (.slice A3 (q + 1) c3)) := by
  have hal : Below wr.heap.size wr (wr.alloc (.cells #[b] 5)) := (Below.refl _ _).alloc (Nat.le_refl _) _
  have hB := h.kept hg h.blk (by decide)
  have h1 := h.via hal
  have hbw : Below w.heap.size w w3 := h1.below.grown hg h1.below.size fun k hk => (h1.own.lt k hk).1
  subst hb
  obtain ⟨hq, hqx⟩ := List.getElem?_eq_some_iff.1 hx
  refine ⟨hB.set 2 _, ?_, hbw.setCell (p := ⟨go, 0 + 2, none⟩) h.hgo _, h.hgo⟩
  rw [List.take_succ_eq_append_getElem hq, hqx, List.map_append]
  refine ownsRow_setCell_other ho (fun he => ?_) _
  have := Ty.one (own_blockV ho he).1 hB.ty
  exact absurd this (by decide)
/-- Another block, behind a byte that was put behind and noted. -/
theorem TuI.other (h : TuI w go rows cols F q A c wr) {b : Value} (hg : (wr.alloc (.cells #[b] 5)).grownBy w3 (Value.slice A q c).ownBlock) {k t cs} (hk : Blk wr k t cs) (ht : t ≠ 5) (hne : k ≠ go) (v : Value) : Blk (w3.setCell ⟨go, 0 + 2, none⟩ v) k t cs :=
  (h.kept hg hk ht).far (p := ⟨go, 0 + 2, none⟩) hne v
end
end Cib

end
/-! MatU -/
section
set_option linter.unusedVariables false
set_option linter.unusedSimpArgs false
set_option maxRecDepth 40000
namespace Cib
open Go Go.RowKit Go.Proofs
/-- A matrix made, by itself. -/
def NewT (r c : Nat) (bs : List UInt8) (w : World) (e : Ending) (w' : World) : Prop :=
  ∃ A k, e = .returned (.agg (mv r c A (r * c) k)) ∧ bs.length = r * c ∧ w'.ownsRow w.heap.size 5 1 (.slice A (r * c) k) (r * c) (bs.map bv) ∧ Below w.heap.size w w'
theorem tab_get? {cols p : Nat} {val : Nat → Nat → UInt8} {i j : Nat} (hj : j < cols) (h : i * cols + j < p) : (tabN cols val p)[i * cols + j]? = some (val i j) := by
  have h' : i * cols + j < (tabN cols val p).length := by rw [tabN_length]; exact h
  rw [List.getElem?_eq_getElem h', tabN_get]
  have h1 : (i * cols + j) / cols = i := by
    rw [Nat.mul_comm, Nat.mul_add_div (by omega)]
    simp [Nat.div_eq_of_lt hj]
  have h2 : (i * cols + j) % cols = j := by
    rw [Nat.mul_comm, Nat.mul_add_mod]
    exact Nat.mod_eq_of_lt hj
  rw [h1, h2]
/-- A result that is one struct in memory. -/
theorem results_mat1 {P : Program} {fn : Func} {p : Tmp} {ty : TypeId} (h : fn.results = #[.cell p ty]) (tmps : Array Value) (w : World) (g : Nat) (te : TypeId) (cs : Array Value) (fr : Nat × Nat) (d : TypeDesc)
    (hp : tmps.getD p undef = .pointer (some ⟨g, 0, none⟩)) (hg : w.heap[g]? = some (.cells cs te fr))
    (hu : P.underlying ty = some d) (hd : (match d with | .struct _ | .array _ _ => true | _ => false) = true) (hi : (P.info? ty).map (·.size) = some cs.size) :
    (results fn tmps).run P w = .ok (.agg cs) w := by
  have hp' : tmps[p]?.getD undef = .pointer (some ⟨g, 0, none⟩) := by simpa using hp
  simp [results, h, hp', asAddr, run_loadVar_row w g te ty cs fr d hg hu hd hi]
end Cib

end
/-! MatE -/
section
set_option linter.unusedVariables false
set_option linter.unusedSimpArgs false
set_option maxRecDepth 40000
namespace Cib
open Go Go.RowKit Go.Proofs
/-- A matrix and no error. -/
def NewE4 (r c : Nat) (bs : List UInt8) (w : World) (e : Ending) (w' : World) : Prop :=
  ∃ A k, e = .returned (.tuple #[.agg (mv r c A (r * c) k), .int .i64 0]) ∧ bs.length = r * c ∧ w'.ownsRow w.heap.size 5 1 (.slice A (r * c) k) (r * c) (bs.map bv) ∧ Below w.heap.size w w'
theorem one_get? {n q : Nat} (h : q < n * n) : (Lin.oneL n)[q]? = some (Lin.dl (q / n) (q % n)) := by
  have h' : q < (Lin.oneL n).length := by unfold Lin.oneL; rw [tabN_length]; exact h
  rw [List.getElem?_eq_getElem h']
  congr 1
  unfold Lin.oneL
  exact tabN_get _ _ _ _
end Cib

end
/-! MatQ -/
section
set_option linter.unusedVariables false
set_option linter.unusedSimpArgs false
set_option maxRecDepth 40000
namespace Cib
open Go Go.RowKit Go.Proofs
theorem nilMul (r c : Int) (A : Option Addr) (n k : Nat) (r2 c2 : Int) (A2 : Option Addr) (n2 k2 : Nat) (w : World) : Calls Try.prog 76 #[.pointer none, .agg (mv r c A n k), .agg (mv r2 c2 A2 n2 k2)] w fun e w' => e = .returned (.tuple #[.agg (mv 0 0 none 0 0), .int .i64 1]) ∧ Below w.heap.size w w' := by
  unfold mv
  go_enter Try.func76, Try.ntmps76
  go_wp2_with fail
  refine (nilNobody _).mono ?_
  rintro e w1 ⟨rfl, rfl⟩
  go_wp2
  refine bodyPost_ret (results_mat2 (g := w.heap.size + 1 + 1) (te := 45) (cs := mv 0 0 none 0 0) (fr := (0, 0)) rfl _ _ _ rfl ?_ Try.underlying45 rfl matInfo3) rfl ⟨rfl, ?_⟩
  · have := Blk.new ((w.alloc (.cells (mv r c A n k) 45)).alloc (.cells (mv r2 c2 A2 n2 k2) 45)) 45 (mv 0 0 none 0 0)
    simpa [mv, Blk] using this
  · exact (((Below.refl _ _).alloc (Nat.le_refl _) _).alloc (by simp) _).alloc (by simp; omega) _
/-- Mul's boxes: the matrices, and the result. -/
structure MqW (z : Nat) (M1 M2 : Array Value) (wa : World) : Prop where
  m : Blk wa z 45 M1
  n : Blk wa (z + 1) 45 M2
  z : Blk wa (z + 1 + 1) 45 (mv 0 0 none 0 0)
theorem MqW.new (w : World) (M1 M2 : Array Value) : MqW w.heap.size M1 M2 (((w.alloc (.cells M1 45)).alloc (.cells M2 45)).alloc (.cells (mv 0 0 none 0 0) 45)) :=
  ⟨((Blk.new w _ _).alloc _).alloc _, by have := (Blk.new (w.alloc (.cells M1 45)) 45 M2).alloc (.cells (mv 0 0 none 0 0) 45); simpa using this, by have := Blk.new ((w.alloc (.cells M1 45)).alloc (.cells M2 45)) 45 (mv 0 0 none 0 0); simpa using this⟩
theorem MqW.below {z : Nat} {M1 M2 : Array Value} {wa wb : World} (h : MqW z M1 M2 wa) (hb : Below wa.heap.size wa wb) : MqW z M1 M2 wb := ⟨h.m.below hb h.m.lt, h.n.below hb h.n.lt, h.z.below hb h.z.lt⟩
theorem MqW.aft {z : Nat} {M1 M2 : Array Value} {wa wb : World} {g : Nat} (h : MqW z M1 M2 wa) (ha : Aft g wa wb) (hg : g < z) : MqW z M1 M2 wb := ⟨ha.blk (by omega) h.m, ha.blk (by omega) h.n, ha.blk (by omega) h.z⟩
theorem mq_new (w : World) (M1 M2 : Array Value) : Below w.heap.size w (((w.alloc (.cells M1 45)).alloc (.cells M2 45)).alloc (.cells (mv 0 0 none 0 0) 45)) := (((Below.refl _ _).alloc (Nat.le_refl _) _).alloc (by simp) _).alloc (by simp; omega) _
set_option maxHeartbeats 2000000 in
theorem matMulNo (g : Nat) (r c : Int) (A : Option Addr) (n k : Nat) (r2 c2 : Int) (A2 : Option Addr) (n2 k2 : Nat) (w : World) (h : Fld w g) (hn : n ≤ 140737488355328) (hn2 : n2 ≤ 140737488355328) (hno : mr r c n = false ∨ mr r2 c2 n2 = false ∨ c ≠ r2) :
    Calls Try.prog 76 #[.pointer (some ⟨g, 0, none⟩), .agg (mv r c A n k), .agg (mv r2 c2 A2 n2 k2)] w (NoM g 2 w) := by
  have hz := mq_new w (mv r c A n k) (mv r2 c2 A2 n2 k2)
  have HIW := Lib.hid (MqW.new w (mv r c A n k) (mv r2 c2 A2 n2 k2))
  have HFA := Lib.hid (h.on hz)
  have HGL := Lib.hid h.lt
  have HZ := Lib.hid hz
  have HR1 := Lib.hid fun W => matRight r c A n k hn W
  have HR2 := Lib.hid fun W => matRight r2 c2 A2 n2 k2 hn2 W
  obtain ⟨b, hb⟩ : ∃ b, mr r c n = b := ⟨_, rfl⟩
  obtain ⟨b2, hb2⟩ : ∃ b, mr r2 c2 n2 = b := ⟨_, rfl⟩
  rw [hb] at HR1 hno
  rw [hb2] at HR2 hno
  clear h hz hb hb2
  unfold mv at HR1 HR2 HFA HZ HIW ⊢
  go_enter Try.func76, Try.ntmps76
  go_wp2_with fail
  refine (matNobody g _ HFA.out).mono ?_
  rintro e w1 ⟨rfl, ha⟩
  have HS1 := Lib.hid (ha.stp2 HZ.out)
  have HI1 := Lib.hid (HIW.out.aft ha HGL.out)
  have m0 := HI1.out.m.cell 0
  have m1 := HI1.out.m.cell 1
  have m2 := HI1.out.m.cell 2
  simp only [List.getElem?_toArray, List.getElem?_cons_zero, List.getElem?_cons_succ] at m0 m1 m2
  clear ha HFA HIW HZ
  go_wp2_with fail
  refine (HR1.out _).mono ?_
  rintro e w2 ⟨rfl, hb2⟩
  have HI2 := Lib.hid (HI1.out.below hb2)
  have HS2 := Lib.hid (HS1.out.via hb2)
  clear hb2 m0 m1 m2 HI1 HS1
  cases b
  · have hz2 := HI2.out.z
    have HFIN := Lib.hid fun (W : World) (e : W = w2.setRow (w.heap.size + 1 + 1) (mv 0 0 none 0 0)) => (⟨by subst e; exact hz2.row _, by subst e; exact HS2.out.setRow (by omega) (by have := HGL.out; omega) _⟩ : Blk W (w.heap.size + 1 + 1) 45 (mv 0 0 none 0 0) ∧ Stp g w W)
    go_wp2_with (refine wpList_store_row rfl 45 (.tmp 6) (.tmp 33) rfl (w.heap.size + 1 + 1) (mv 0 0 none 0 0) rfl rfl 45 (mv 0 0 none 0 0) hz2 matInfo3 rfl (mv_one _ _ _ _ _) ?_)
    refine bodyPost_ret (results_mat2 (g := w.heap.size + 1 + 1) (te := 45) (cs := mv 0 0 none 0 0) (fr := (0, 0)) rfl _ _ _ rfl (HFIN.out _ rfl).1 Try.underlying45 rfl matInfo3) rfl ⟨rfl, (HFIN.out _ rfl).2⟩
  · have n0 := HI2.out.n.cell 0
    have n1 := HI2.out.n.cell 1
    have n2 := HI2.out.n.cell 2
    simp only [List.getElem?_toArray, List.getElem?_cons_zero, List.getElem?_cons_succ] at n0 n1 n2
    go_wp2_with fail
    refine (HR2.out _).mono ?_
    rintro e w3 ⟨rfl, hb3⟩
    have HI3 := Lib.hid (HI2.out.below hb3)
    have HS3 := Lib.hid (HS2.out.via hb3)
    clear hb3 n0 n1 n2 HI2 HS2
    have m1 := HI3.out.m.cell 1
    have n0 := HI3.out.n.cell 0
    simp only [List.getElem?_toArray, List.getElem?_cons_zero, List.getElem?_cons_succ] at m1 n0
    have hz3 := HI3.out.z
    have HFIN := Lib.hid fun (W : World) (e : W = w3.setRow (w.heap.size + 1 + 1) (mv 0 0 none 0 0)) => (⟨by subst e; exact hz3.row _, by subst e; exact HS3.out.setRow (by omega) (by have := HGL.out; omega) _⟩ : Blk W (w.heap.size + 1 + 1) 45 (mv 0 0 none 0 0) ∧ Stp g w W)
    cases b2
    · go_wp2_with (refine wpList_store_row rfl 45 (.tmp 6) (.tmp 33) rfl (w.heap.size + 1 + 1) (mv 0 0 none 0 0) rfl rfl 45 (mv 0 0 none 0 0) hz3 matInfo3 rfl (mv_one _ _ _ _ _) ?_)
      refine bodyPost_ret (results_mat2 (g := w.heap.size + 1 + 1) (te := 45) (cs := mv 0 0 none 0 0) (fr := (0, 0)) rfl _ _ _ rfl (HFIN.out _ rfl).1 Try.underlying45 rfl matInfo3) rfl ⟨rfl, (HFIN.out _ rfl).2⟩
    · have hrc : c ≠ r2 := (hno.resolve_left (by decide)).resolve_left (by decide)
      have hd1 : (c != r2) = true := by simpa using hrc
      have hd2 : (c == r2) = false := by simpa using hrc
      clear hno hrc
      go_wp2_with (refine wpList_store_row rfl 45 (.tmp 6) (.tmp 33) rfl (w.heap.size + 1 + 1) (mv 0 0 none 0 0) rfl rfl 45 (mv 0 0 none 0 0) hz3 matInfo3 rfl (mv_one _ _ _ _ _) ?_)
      refine bodyPost_ret (results_mat2 (g := w.heap.size + 1 + 1) (te := 45) (cs := mv 0 0 none 0 0) (fr := (0, 0)) rfl _ _ _ rfl (HFIN.out _ rfl).1 Try.underlying45 rfl matInfo3) rfl ⟨rfl, (HFIN.out _ rfl).2⟩
end Cib

end
/-! MatH -/
section
set_option linter.unusedVariables false
set_option linter.unusedSimpArgs false
set_option maxRecDepth 40000
namespace Cib
open Go Go.RowKit Go.Proofs
section
variable {w wr w2 w3 : World} {go : Nat} {rows cols : Int} {F : List UInt8} {q m : Nat} {A : Option Addr} {c : Nat}
theorem TuI.keptN (h : TuI w go rows cols F q A c wr) (hg : wr.grownBy w3 (Value.slice A q c).ownBlock) {k t cs} (hk : Blk wr k t cs) (ht : t ≠ 5) : Blk w3 k t cs :=
  hk.same (Same.grown (ts := [5]) h.own hg (by decide)) (by intro hm; rw [List.mem_singleton] at hm; exact ht hm)
theorem TuI.pushN (h : TuI w go rows cols F q A c wr) {xs : List UInt8} (hx : F.take q ++ xs = F.take (q + m)) {A3 : Option Addr} {c3 : Nat}
    (ho : w3.ownsRow w.heap.size 5 1 (.slice A3 (q + m) c3) (q + m) ((F.take q).map bv ++ xs.map bv)) (hg : wr.grownBy w3 (Value.slice A q c).ownBlock) :
    TuI w go rows cols F (q + m) A3 c3 (w3.setCell ⟨go, 0 + 2, none⟩ (.slice A3 (q + m) c3)) := by
  have hB := h.keptN hg h.blk (by decide)
  have hbw : Below w.heap.size w w3 := h.below.grown hg h.below.size fun k hk => (h.own.lt k hk).1
  refine ⟨hB.set 2 _, ?_, hbw.setCell (p := ⟨go, 0 + 2, none⟩) h.hgo _, h.hgo⟩
  rw [← hx, List.map_append]
  refine ownsRow_setCell_other ho (fun he => ?_) _
  have := Ty.one (own_blockV ho he).1 hB.ty
  exact absurd this (by decide)
end
theorem take_row {ra ca cb : Nat} {as_ bs : List UInt8} {p : Nat} (hp : p < ra) : (Lin.mulL ra ca cb as_ bs).take (p * cb) ++ Lin.sumL ca cb as_ bs p ca = (Lin.mulL ra ca cb as_ bs).take (p * cb + cb) := by
  have hle : p * cb + cb ≤ ra * cb := by
    rw [← Nat.succ_mul]
    exact Nat.mul_le_mul_right cb hp
  have ht : ∀ q, q ≤ ra * cb → (Lin.mulL ra ca cb as_ bs).take q = tabN cb (Lin.mm ca (Lin.fl ca as_) (Lin.fl cb bs)) q := fun q hq => by
    unfold Lin.mulL tabN
    rw [← List.map_take, List.take_range, Nat.min_eq_left hq]
  rw [ht _ (by omega), ht _ hle, Lin.mulL_row ra ca cb as_ bs p, Nat.succ_mul]
theorem mulBoxA (w3 : World) (T : Nat) : Blk ((w3.drew.alloc (.cells (madeCells #[.int .u8 0] T) 5)).alloc (.cells #[.int .i64 0, .int .i64 0, .slice none 0 0] 45)) (w3.heap.size + 1) 45 #[.int .i64 0, .int .i64 0, .slice none 0 0] := by
  have := Blk.new (w3.drew.alloc (.cells (madeCells #[.int .u8 0] T) 5)) 45 #[.int .i64 0, .int .i64 0, .slice none 0 0]
  simpa using this
theorem mulBegA (w3 : World) (ra cb : Int) (F : List UInt8) (T : Nat) (hT : T ≤ 65025) :
    TuI w3 (w3.heap.size + 1) ra cb F 0 (some ⟨w3.heap.size, 0, none⟩) T (((w3.drew.alloc (.cells (madeCells #[.int .u8 0] T) 5)).alloc (.cells #[.int .i64 0, .int .i64 0, .slice none 0 0] 45)).setRow (w3.heap.size + 1) (mv ra cb (some ⟨w3.heap.size, 0, none⟩) 0 T)) := by
  have hb : Below w3.heap.size w3 ((w3.drew.alloc (.cells (madeCells #[.int .u8 0] T) 5)).alloc (.cells #[.int .i64 0, .int .i64 0, .slice none 0 0] 45)) := ((below_drewN (Below.refl w3.heap.size w3) 1).alloc (Nat.le_refl _) _).alloc (by simp) _
  have hk : Blk ((w3.drew.alloc (.cells (madeCells #[.int .u8 0] T) 5)).alloc (.cells #[.int .i64 0, .int .i64 0, .slice none 0 0] 45)) (w3.heap.size + 1) 45 #[.int .i64 0, .int .i64 0, .slice none 0 0] := by
    have := Blk.new (w3.drew.alloc (.cells (madeCells #[.int .u8 0] T) 5)) 45 #[.int .i64 0, .int .i64 0, .slice none 0 0]
    simpa using this
  have ho := (own_made w3.drew w3.drew.heap.size 5 (.int .u8 0) 0 T (Nat.le_refl _) (Nat.zero_le _) (by unfold maxLen; omega)).alloc (.cells #[.int .i64 0, .int .i64 0, .slice none 0 0] 45)
  refine ⟨hk.row _, own_setRow ho (by simp [Value.ownBlock]) _, below_setRow hb (by omega) _, by omega⟩
theorem mulBegB (w3 : World) (ra cb : Int) (F : List UInt8) (T : Nat) (hT : T ≤ 65025) :
    TuI w3 w3.heap.size ra cb F 0 (some ⟨w3.heap.size + 1, 0, none⟩) T (((w3.drew.alloc (.cells #[.int .i64 0, .int .i64 0, .slice none 0 0] 45)).alloc (.cells (madeCells #[.int .u8 0] T) 5)).setRow w3.heap.size (mv ra cb (some ⟨w3.heap.size + 1, 0, none⟩) 0 T)) := by
  have hb : Below w3.heap.size w3 ((w3.drew.alloc (.cells #[.int .i64 0, .int .i64 0, .slice none 0 0] 45)).alloc (.cells (madeCells #[.int .u8 0] T) 5)) := ((below_drewN (Below.refl w3.heap.size w3) 1).alloc (Nat.le_refl _) _).alloc (by simp) _
  have hk : Blk ((w3.drew.alloc (.cells #[.int .i64 0, .int .i64 0, .slice none 0 0] 45)).alloc (.cells (madeCells #[.int .u8 0] T) 5)) w3.heap.size 45 #[.int .i64 0, .int .i64 0, .slice none 0 0] :=
    (Blk.new w3.drew 45 #[.int .i64 0, .int .i64 0, .slice none 0 0]).alloc _
  have ho := own_made (w3.drew.alloc (.cells #[.int .i64 0, .int .i64 0, .slice none 0 0] 45)) w3.heap.size 5 (.int .u8 0) 0 T (by simp) (Nat.zero_le _) (by unfold maxLen; omega)
  rw [World.size_alloc] at ho
  refine ⟨hk.row _, own_setRow ho (by simp [Value.ownBlock]) _, below_setRow hb (Nat.le_refl _) _, Nat.le_refl _⟩
set_option maxHeartbeats 4000000 in
theorem matMul (g ra ca cb : Nat) (A1 A2 : Option Addr) (n1 k1 n2 k2 : Nat) (as_ bs : List UInt8) (w : World) (h : Fld w g) (h1 : Rd w w.heap.size A1 (as_.map bv)) (h2 : Rd w w.heap.size A2 (bs.map bv)) (hg1 : ∀ ad, A1 = some ad → ad.block ≠ g) (hg2 : ∀ ad, A2 = some ad → ad.block ≠ g)
    (hl1 : as_.length = ra * ca) (hl2 : bs.length = ca * cb) (hn1 : n1 = ra * ca) (hn2 : n2 = ca * cb) (hk1 : n1 ≤ k1) (hk2 : n2 ≤ k2) (hra : 1 ≤ ra ∧ ra ≤ 255) (hca : 1 ≤ ca ∧ ca ≤ 255) (hcb : 1 ≤ cb ∧ cb ≤ 255) :
    Calls Try.prog 76 #[.pointer (some ⟨g, 0, none⟩), .agg (mv ra ca A1 n1 k1), .agg (mv ca cb A2 n2 k2)] w (NewM g ra cb (Lin.mulL ra ca cb as_ bs) w) := by
  have hz := mq_new w (mv ra ca A1 n1 k1) (mv ca cb A2 n2 k2)
  have hle1 : n1 ≤ 65025 := by rw [hn1]; exact Nat.mul_le_mul hra.2 hca.2
  have hle2 : n2 ≤ 65025 := by rw [hn2]; exact Nat.mul_le_mul hca.2 hcb.2
  have HIW := Lib.hid (MqW.new w (mv ra ca A1 n1 k1) (mv ca cb A2 n2 k2))
  have HFA := Lib.hid (h.on hz)
  have HGL := Lib.hid h.lt
  have HZ := Lib.hid hz
  have HR1 := Lib.hid fun W => matRight ra ca A1 n1 k1 (by omega) W
  have HR2 := Lib.hid fun W => matRight ca cb A2 n2 k2 (by omega) W
  rw [show mr (ra : Int) (ca : Int) n1 = true from mr_true.2 ⟨by omega, by omega, by rw [hn1]; simp⟩] at HR1
  rw [show mr (ca : Int) (cb : Int) n2 = true from mr_true.2 ⟨by omega, by omega, by rw [hn2]; simp⟩] at HR2
  have HRD1 := Lib.hid h1
  have HRD2 := Lib.hid h2
  have HHG1 := Lib.hid hg1
  have HHG2 := Lib.hid hg2
  have HL1 := Lib.hid hl1
  have HL2 := Lib.hid hl2
  obtain ⟨T, hT⟩ : ∃ T, ra * cb = T := ⟨_, rfl⟩
  have hT2 : T ≤ 65025 := by rw [← hT]; exact Nat.mul_le_mul hra.2 hcb.2
  have hmul : (ra : Int) * (cb : Int) = (T : Int) := by rw [← hT]; simp
  obtain ⟨i0, hi, hz0, hz1, hz2⟩ := info_parts infoByte
  have hmk2 : ∀ W : World, (Instr.makeSlice 22 (.int .i64 0) (.int .i64 (T : Int))).run Try.prog W = .ok (.slice (some ⟨W.heap.size, 0, none⟩) 0 T) (W.alloc (.cells (madeCells #[.int .u8 0] T) 5)) := fun W => by
    have := run_make (P := Try.prog) W 22 5 i0 (.int .u8 0) Try.underlying22 hi hz0 .i64 .i64 0 (T : Int) (by omega) (by omega) (by rw [hz2]; omega) (by omega)
    rw [hz1, Nat.mul_one, Int.toNat_natCast] at this
    exact this
  have hmk3 := makeB cb (by omega)
  have HT := Lib.hid hT
  have HN1 := Lib.hid hn1
  have HN2 := Lib.hid hn2
  obtain ⟨hra1, hra2⟩ := hra
  obtain ⟨hca1, hca2⟩ := hca
  obtain ⟨hcb1, hcb2⟩ := hcb
  clear h h1 h2 hz hg1 hg2 hl1 hl2 hT hi hz0 hz1 hz2 hn1 hn2
  unfold mv at HR1 HR2 HFA HZ HIW ⊢
  go_enter Try.func76, Try.ntmps76
  go_wp2_with fail
  refine (matNobody g _ HFA.out).mono ?_
  rintro e w1 ⟨rfl, ha⟩
  have HS1 := Lib.hid (ha.stp2 HZ.out)
  have HI1 := Lib.hid (HIW.out.aft ha HGL.out)
  have m0 := HI1.out.m.cell 0
  have m1 := HI1.out.m.cell 1
  have m2 := HI1.out.m.cell 2
  simp only [List.getElem?_toArray, List.getElem?_cons_zero, List.getElem?_cons_succ] at m0 m1 m2
  clear ha HFA HIW HZ
  go_wp2_with fail
  refine (HR1.out _).mono ?_
  rintro e w2 ⟨rfl, hb2⟩
  have HI2 := Lib.hid (HI1.out.below hb2)
  have HS2 := Lib.hid (HS1.out.via hb2)
  clear hb2 m0 m1 m2 HI1 HS1
  have n0 := HI2.out.n.cell 0
  have n1' := HI2.out.n.cell 1
  have n2' := HI2.out.n.cell 2
  simp only [List.getElem?_toArray, List.getElem?_cons_zero, List.getElem?_cons_succ] at n0 n1' n2'
  go_wp2_with fail
  refine (HR2.out _).mono ?_
  rintro e w3 ⟨rfl, hb3⟩
  have HI3 := Lib.hid (HI2.out.below hb3)
  have HS3 := Lib.hid (HS2.out.via hb3)
  clear hb3 n0 n1' n2' HI2 HS2 HR1 HR2
  have m0 := HI3.out.m.cell 0
  have m1 := HI3.out.m.cell 1
  have m2 := HI3.out.m.cell 2
  have n0 := HI3.out.n.cell 0
  have n1' := HI3.out.n.cell 1
  have n2' := HI3.out.n.cell 2
  simp only [List.getElem?_toArray, List.getElem?_cons_zero, List.getElem?_cons_succ] at m0 m1 m2 n0 n1' n2'
  have hlz := HI3.out.z.lt
  have hlm := HI3.out.m.lt
  have hln := HI3.out.n.lt
  have hwT : IntKind.i64.wrap (T : Int) = (T : Int) := by rw [IntKind.wrap_i64]; omega
  have hD3 : Below w3.heap.size w3 w3.drew := below_drewN (Below.refl _ _) 1
  go_upto_region 5 with fail
  go_cut [8] (fun p wx => ∃ (go gm : Nat), p = .pointer (some ⟨go, 0, none⟩) ∧ Hid (TuI w3 go ra cb (Lin.mulL ra ca cb as_ bs) 0 (some ⟨gm, 0, none⟩) T wx))
  case first =>
    refine wp_region_held_drew (S := (fun wQq => Below (World.heap (w3.drew)).size (w3.drew) wQq)) (by kernel_rfl) (by exact Below.refl _ _) (fun _ => ?_)
    refine wpAnyH_take (i := 0) (v := ?_) rfl (by kernel_rfl) (by kernel_rfl) (by kernel_rfl) (fun _ _ _ h => h) (Or.inl ⟨by rfl, ?_⟩) (Below.refl _ _) ?_
    rotate_left
    · intro wS hSw
      go_simp
      try with_reducible rfl
    try simp only [List.getElem_toArray, List.getElem_cons_zero, List.getElem_cons_succ, Act.put, List.setIfInBounds_toArray, List.set_cons_zero, List.set_cons_succ]
    refine wpAnyH_take (i := 2) (v := ?_) rfl (by kernel_rfl) (by kernel_rfl) (by kernel_rfl) (fun _ _ _ h => h) (Or.inl ⟨by rfl, ?_⟩) (Below.refl _ _) ?_
    rotate_left
    · intro wS hSw
      go_simp
      try with_reducible rfl
    try simp only [List.getElem_toArray, List.getElem_cons_zero, List.getElem_cons_succ, Act.put, List.setIfInBounds_toArray, List.set_cons_zero, List.set_cons_succ]
    refine wpAnyH_take (i := 4) (v := ?_) rfl (by kernel_rfl) (by kernel_rfl) (by kernel_rfl) (fun _ _ _ h => h) (Or.inl ⟨by rfl, ?_⟩) (Below.refl _ _) ?_
    rotate_left
    · intro wS hSw
      go_simp
      try with_reducible rfl
    try simp only [List.getElem_toArray, List.getElem_cons_zero, List.getElem_cons_succ, Act.put, List.setIfInBounds_toArray, List.set_cons_zero, List.set_cons_succ]
    refine wpAnyH_take (i := 6) (v := ?_) rfl (by kernel_rfl) (by kernel_rfl) (by kernel_rfl) (fun _ _ _ h => h) (Or.inl ⟨by rfl, ?_⟩) (Below.refl _ _) ?_
    rotate_left
    · intro wS hSw
      go_simp
      try with_reducible rfl
    try simp only [List.getElem_toArray, List.getElem_cons_zero, List.getElem_cons_succ, Act.put, List.setIfInBounds_toArray, List.set_cons_zero, List.set_cons_succ]
    refine wpAnyH_take (i := 1) (v := ?_) rfl (by kernel_rfl) (by kernel_rfl) (by kernel_rfl) (fun _ _ _ h => h) (Or.inl ⟨by rfl, ?_⟩) (Below.refl _ _) ?_
    rotate_left
    · intro wS hSw
      have hcv := ((hSw.cell (p := ⟨w.heap.size, 0, none⟩) (by exact hlm)).trans m0)
      go_simp
      try with_reducible rfl
    try simp only [List.getElem_toArray, List.getElem_cons_zero, List.getElem_cons_succ, Act.put, List.setIfInBounds_toArray, List.set_cons_zero, List.set_cons_succ]
    refine wpAnyH_take (i := 3) (v := ?_) rfl (by kernel_rfl) (by kernel_rfl) (by kernel_rfl) (fun _ _ _ h => h) (Or.inl ⟨by rfl, ?_⟩) (Below.refl _ _) ?_
    rotate_left
    · intro wS hSw
      have hcv := ((hSw.cell (p := ⟨w.heap.size + 1, 1, none⟩) (by exact hln)).trans n1')
      go_simp
      try with_reducible rfl
    try simp only [List.getElem_toArray, List.getElem_cons_zero, List.getElem_cons_succ, Act.put, List.setIfInBounds_toArray, List.set_cons_zero, List.set_cons_succ]
    refine wpAnyH_take (i := 5) (v := ?_) rfl (by kernel_rfl) (by kernel_rfl) (by kernel_rfl) (fun _ _ _ h => h) (Or.inl ⟨by rfl, ?_⟩) (Below.refl _ _) ?_
    rotate_left
    · intro wS hSw
      have hcv := ((hSw.cell (p := ⟨w.heap.size, 0, none⟩) (by exact hlm)).trans m0)
      go_simp
      try with_reducible rfl
    try simp only [List.getElem_toArray, List.getElem_cons_zero, List.getElem_cons_succ, Act.put, List.setIfInBounds_toArray, List.set_cons_zero, List.set_cons_succ]
    refine wpAnyH_take (i := 7) (v := ?_) rfl (by kernel_rfl) (by kernel_rfl) (by kernel_rfl) (fun _ _ _ h => h) (Or.inl ⟨by rfl, ?_⟩) (Below.refl _ _) ?_
    rotate_left
    · intro wS hSw
      have hcv := ((hSw.cell (p := ⟨w.heap.size + 1, 1, none⟩) (by exact hln)).trans n1')
      go_simp
      try with_reducible rfl
    try simp only [List.getElem_toArray, List.getElem_cons_zero, List.getElem_cons_succ, Act.put, List.setIfInBounds_toArray, List.set_cons_zero, List.set_cons_succ]
    refine wpAnyH_take (i := 8) (v := ?_) rfl (by kernel_rfl) (by kernel_rfl) (by kernel_rfl) (fun _ _ _ h => h) (Or.inl ⟨by rfl, ?_⟩) (Below.refl _ _) ?_
    rotate_left
    · intro wS hSw
      go_simp
      try with_reducible rfl
    try simp only [List.getElem_toArray, List.getElem_cons_zero, List.getElem_cons_succ, Act.put, List.setIfInBounds_toArray, List.set_cons_zero, List.set_cons_succ]
    refine wpAnyH_ready (rs := [9, 11]) (by kernel_rfl) (by simp) ?_
    refine AllReadyH.cons rfl (fun K hK => ?_) (AllReadyH.cons rfl (fun K hK => ?_) AllReadyH.nil)
    · go_simp
      first
        | have HB9 := Lib.hid (HB11.out.alloc (by simp) (.cells (madeCells #[.int .u8 0] T) 5))
        | have HB9 := Lib.hid ((Below.refl w3.drew.heap.size w3.drew).alloc (Nat.le_refl _) (.cells (madeCells #[.int .u8 0] T) 5))
      refine hK.out _ _ HB9.out (fun _ => ?_)
      clear hK K
      try simp only [List.getElem_toArray, List.getElem_cons_zero, List.getElem_cons_succ, Act.put, List.setIfInBounds_toArray, List.set_cons_zero, List.set_cons_succ]
      refine wpAnyH_take (i := 10) (v := ?_) rfl (by kernel_rfl) (by kernel_rfl) (by kernel_rfl) (fun _ _ _ h => h) (Or.inl ⟨by rfl, ?_⟩) HB9.out ?_
      rotate_left
      · intro wS hSw
        go_simp
        try with_reducible rfl
      try simp only [List.getElem_toArray, List.getElem_cons_zero, List.getElem_cons_succ, Act.put, List.setIfInBounds_toArray, List.set_cons_zero, List.set_cons_succ]
      refine wpAnyH_ready (rs := [11]) (by kernel_rfl) (by simp) ?_
      refine AllReadyH.cons rfl (fun K hK => ?_) AllReadyH.nil
      go_simp
      first
        | have HB11 := Lib.hid (HB9.out.alloc (by simp) (.cells #[.int .i64 0, .int .i64 0, .slice none 0 0] 45))
        | have HB11 := Lib.hid ((Below.refl w3.drew.heap.size w3.drew).alloc (Nat.le_refl _) (.cells #[.int .i64 0, .int .i64 0, .slice none 0 0] 45))
      refine hK.out _ _ HB11.out (fun _ => ?_)
      clear hK K
      try simp only [List.getElem_toArray, List.getElem_cons_zero, List.getElem_cons_succ, Act.put, List.setIfInBounds_toArray, List.set_cons_zero, List.set_cons_succ]
      refine wpAnyH_ready (rs := [12]) (by kernel_rfl) (by simp) ?_
      refine AllReadyH.cons rfl (fun K hK => ?_) AllReadyH.nil
      first
        | (refine wp_store_row 45 (.tmp 8) (.tmp 44) rfl (w3.heap.size + 1) (mv ra cb (some ⟨w3.heap.size, 0, none⟩) 0 T) rfl rfl 45 #[.int .i64 0, .int .i64 0, .slice none 0 0] (mulBoxA w3 T) matInfo3 rfl (mv_one _ _ _ _ _) ?_; have HTU := Lib.hid (mulBegA w3 ra cb (Lin.mulL ra ca cb as_ bs) T hT2); have HB12 := Lib.hid (below_setRow HB11.out (g := w3.heap.size + 1) (by simp) (mv ra cb (some ⟨w3.heap.size, 0, none⟩) 0 T)))
        | (refine wp_store_row 45 (.tmp 8) (.tmp 44) rfl w3.heap.size (mv ra cb (some ⟨w3.heap.size + 1, 0, none⟩) 0 T) rfl rfl 45 #[.int .i64 0, .int .i64 0, .slice none 0 0] ((Blk.new w3.drew 45 #[.int .i64 0, .int .i64 0, .slice none 0 0]).alloc _) matInfo3 rfl (mv_one _ _ _ _ _) ?_; have HTU := Lib.hid (mulBegB w3 ra cb (Lin.mulL ra ca cb as_ bs) T hT2); have HB12 := Lib.hid (below_setRow HB9.out (g := w3.heap.size) (by simp) (mv ra cb (some ⟨w3.heap.size + 1, 0, none⟩) 0 T)))
      refine hK.out _ _ HB12.out (fun _ => ?_)
      clear hK K
      try simp only [List.getElem_toArray, List.getElem_cons_zero, List.getElem_cons_succ, Act.put, List.setIfInBounds_toArray, List.set_cons_zero, List.set_cons_succ]
      refine wpAnyH_done (by kernel_rfl) ?_ _
      go_wp2_with fail
      go_meet
      exact ⟨_, _, rfl, HTU⟩
    · go_simp
      first
        | have HB11 := Lib.hid (HB9.out.alloc (by simp) (.cells #[.int .i64 0, .int .i64 0, .slice none 0 0] 45))
        | have HB11 := Lib.hid ((Below.refl w3.drew.heap.size w3.drew).alloc (Nat.le_refl _) (.cells #[.int .i64 0, .int .i64 0, .slice none 0 0] 45))
      refine hK.out _ _ HB11.out (fun _ => ?_)
      clear hK K
      try simp only [List.getElem_toArray, List.getElem_cons_zero, List.getElem_cons_succ, Act.put, List.setIfInBounds_toArray, List.set_cons_zero, List.set_cons_succ]
      refine wpAnyH_ready (rs := [9]) (by kernel_rfl) (by simp) ?_
      refine AllReadyH.cons rfl (fun K hK => ?_) AllReadyH.nil
      go_simp
      first
        | have HB9 := Lib.hid (HB11.out.alloc (by simp) (.cells (madeCells #[.int .u8 0] T) 5))
        | have HB9 := Lib.hid ((Below.refl w3.drew.heap.size w3.drew).alloc (Nat.le_refl _) (.cells (madeCells #[.int .u8 0] T) 5))
      refine hK.out _ _ HB9.out (fun _ => ?_)
      clear hK K
      try simp only [List.getElem_toArray, List.getElem_cons_zero, List.getElem_cons_succ, Act.put, List.setIfInBounds_toArray, List.set_cons_zero, List.set_cons_succ]
      refine wpAnyH_take (i := 10) (v := ?_) rfl (by kernel_rfl) (by kernel_rfl) (by kernel_rfl) (fun _ _ _ h => h) (Or.inl ⟨by rfl, ?_⟩) HB9.out ?_
      rotate_left
      · intro wS hSw
        go_simp
        try with_reducible rfl
      try simp only [List.getElem_toArray, List.getElem_cons_zero, List.getElem_cons_succ, Act.put, List.setIfInBounds_toArray, List.set_cons_zero, List.set_cons_succ]
      refine wpAnyH_ready (rs := [12]) (by kernel_rfl) (by simp) ?_
      refine AllReadyH.cons rfl (fun K hK => ?_) AllReadyH.nil
      first
        | (refine wp_store_row 45 (.tmp 8) (.tmp 44) rfl (w3.heap.size + 1) (mv ra cb (some ⟨w3.heap.size, 0, none⟩) 0 T) rfl rfl 45 #[.int .i64 0, .int .i64 0, .slice none 0 0] (mulBoxA w3 T) matInfo3 rfl (mv_one _ _ _ _ _) ?_; have HTU := Lib.hid (mulBegA w3 ra cb (Lin.mulL ra ca cb as_ bs) T hT2); have HB12 := Lib.hid (below_setRow HB11.out (g := w3.heap.size + 1) (by simp) (mv ra cb (some ⟨w3.heap.size, 0, none⟩) 0 T)))
        | (refine wp_store_row 45 (.tmp 8) (.tmp 44) rfl w3.heap.size (mv ra cb (some ⟨w3.heap.size + 1, 0, none⟩) 0 T) rfl rfl 45 #[.int .i64 0, .int .i64 0, .slice none 0 0] ((Blk.new w3.drew 45 #[.int .i64 0, .int .i64 0, .slice none 0 0]).alloc _) matInfo3 rfl (mv_one _ _ _ _ _) ?_; have HTU := Lib.hid (mulBegB w3 ra cb (Lin.mulL ra ca cb as_ bs) T hT2); have HB12 := Lib.hid (below_setRow HB9.out (g := w3.heap.size) (by simp) (mv ra cb (some ⟨w3.heap.size + 1, 0, none⟩) 0 T)))
      refine hK.out _ _ HB12.out (fun _ => ?_)
      clear hK K
      try simp only [List.getElem_toArray, List.getElem_cons_zero, List.getElem_cons_succ, Act.put, List.setIfInBounds_toArray, List.set_cons_zero, List.set_cons_succ]
      refine wpAnyH_done (by kernel_rfl) ?_ _
      go_wp2_with fail
      go_meet
      exact ⟨_, _, rfl, HTU⟩
  case rest =>
    obtain ⟨go, gm, rfl, hI0⟩ := hcut
    clear hmk2 hmul hwT m0 m1 m2 n0 n1' n2' hlz hlm hln hD3
    have HRA := Lib.hid fun wr (hb : Below w3.heap.size w3 wr) p (hp : p < ra) => cut_row ((((HS3.out.rd HRD1.out (Nat.le_refl _) HHG1.out).more HS3.out.size).below hb).more hb.size) HL1.out hp
    have HRB := Lib.hid fun wr (hb : Below w3.heap.size w3 wr) p (hp : p < ca) => cut_row ((((HS3.out.rd HRD2.out (Nat.le_refl _) HHG2.out).more HS3.out.size).below hb).more hb.size) HL2.out hp
    have HFU := Lib.hid fun wr (hb : Below w3.heap.size w3 wr) => HS3.out.full.on hb
    have HMW := Lib.hid fun wr (hb : Below w3.heap.size w3 wr) => HI3.out.below hb
    have HQ1 := Lib.hid fun p (hp : p < ra) W => matRow A1 n1 k1 ca p hca2 (by rw [HN1.out]; exact Nat.mul_le_mul_right ca hp) (by omega) hk1 W
    have HQ2 := Lib.hid fun p (hp : p < ca) W => matRow A2 n2 k2 cb p hcb2 (by rw [HN2.out]; exact Nat.mul_le_mul_right cb hp) (by omega) hk2 W
    have HS0 := Lib.hid fun p => Lin.sumL_zero ca cb as_ bs p
    have HSL := Lib.hid fun p j => Lin.sumL_length ca cb as_ bs p j
    have HSN := Lib.hid fun p j (hj : j < ca) => Lin.sumL_next (ca := ca) (cb := cb) (i := p) (A := as_) HL2.out hj
    have HTK := Lib.hid fun p (hp : p < ra) => take_row (ca := ca) (cb := cb) (as_ := as_) (bs := bs) hp
    have HR1L := Lib.hid fun p (hp : p < ra) => Lin.rowOf_length HL1.out hp
    have HR2L := Lib.hid fun p (hp : p < ca) => Lin.rowOf_length HL2.out hp
    have HRG := Lib.hid fun p j (hj : j < ca) => Lin.rowOf_get (i := p) (A := as_) hj
    have HTL := Lib.hid (Lin.mulL_length ra ca cb as_ bs)
    generalize Lin.mulL ra ca cb as_ bs = F at *
    generalize Lin.sumL ca cb as_ bs = SU at *
    generalize Lin.fl ca as_ = FA at *
    generalize Lin.rowOf ca as_ = RA at *
    generalize Lin.rowOf cb bs = RB at *
    clear HL1 HL2 HRD1 HRD2 HHG1 HHG2 HN1 HN2
    have hgs := HS3.out.size
    have m0 := (HMW.out _ hI0.out.below).m.cell 0
    simp only [List.getElem?_toArray, List.getElem?_cons_zero, List.getElem?_cons_succ] at m0
    go_wp2
    go_loopw [9, 10, 11, 12, 47] (fun _ _ _ _ i wr => ∃ (p : Nat) (A' : Option Addr) (c' : Nat), i = .int .i64 p ∧ p ≤ ra ∧ Hid (TuI w3 go ra cb F (p * cb) A' c' wr)) (fun _ _ _ _ i _ => ra - (intOf i).toNat)
    case atStart => exact ⟨0, some ⟨gm, 0, none⟩, T, rfl, Nat.zero_le _, by rw [Nat.zero_mul]; exact hI0⟩
    case round =>
      clear hI0 m0
      obtain ⟨p, A', c', rfl, hp, hI⟩ := hrel
      by_cases hlt : p < ra
      · rename World => wo
        have hM := HMW.out wo hI.out.below
        have m1 := hM.m.cell 1
        have m2 := hM.m.cell 2
        have n1' := hM.n.cell 1
        simp only [List.getElem?_toArray, List.getElem?_cons_zero, List.getElem?_cons_succ] at m1 m2 n1'
        have hlm := hM.m.lt
        have hln := hM.n.lt
        have HRp := Lib.hid (HRA.out wo hI.out.below p hlt)
        have HQp := Lib.hid (HQ1.out p hlt)
        have HLp := Lib.hid (HR1L.out p hlt)
        have HGp := Lib.hid (HRG.out p)
        have HS00 : Hid ((wo.alloc (.cells (madeCells #[.int .u8 0] cb) 5)).ownsRow wo.heap.size 5 1 (.slice (some ⟨wo.heap.size, 0, none⟩) cb cb) cb ((SU p 0).map bv)) := Lib.hid (by
          rw [HS0.out p, List.map_replicate]
          exact own_made wo wo.heap.size 5 (.int .u8 0) cb cb (Nat.le_refl _) (Nat.le_refl _) (by unfold maxLen; omega))
        have HB0 := Lib.hid ((Below.refl wo.heap.size wo).alloc (Nat.le_refl _) (.cells (madeCells #[.int .u8 0] cb) 5))
        clear hM
        generalize cut A1 ((p + 1) * ca) (p * ca) = As at *
        obtain ⟨ad, rfl, hab, _⟩ := HRp.out.byte (k := 0) (by rw [HLp.out]; omega)
        clear hab
        go_wp2_with fail
        refine (HQp.out _).mono ?_
        rintro e w5 ⟨rfl, rfl⟩
        go_wp2
        go_loopw [10, 11, 12, 60] (fun s _ _ i wr => ∃ (j : Nat) (As : Option Addr) (cs : Nat), s = .slice As cb cs ∧ i = .int .i64 j ∧ j ≤ ca ∧ Hid (wr.ownsRow wo.heap.size 5 1 (.slice As cb cs) cb ((SU p j).map bv)) ∧ Hid (Below wo.heap.size wo wr)) (fun _ _ _ i _ => ca - (intOf i).toNat)
        case atStart => exact ⟨0, some ⟨wo.heap.size, 0, none⟩, cb, rfl, rfl, Nat.zero_le _, HS00, HB0⟩
        case round =>
          clear HS00 HB0 m1 m2 n1' hlm hln
          obtain ⟨j, As, cs, rfl, rfl, hj, hO, hbx⟩ := hrel
          have hbw : Below w3.heap.size w3 wr := hI.out.below.trans (hbx.out.mono hI.out.below.size)
          by_cases hlj : j < ca
          · obtain ⟨ad', had, _, hcell⟩ := (HRp.out.below hbx.out).byte (k := j) (by rw [HLp.out]; exact hlj)
            obtain rfl := Option.some.inj had
            have hM := HMW.out wr hbw
            have n1' := hM.n.cell 1
            have n2' := hM.n.cell 2
            simp only [List.getElem?_toArray, List.getElem?_cons_zero, List.getElem?_cons_succ] at n1' n2'
            have hx : (RA p)[j]'(by rw [HLp.out]; exact hlj) = FA p j := by
              rw [← HGp.out j hlj]
              exact (getD_0 _).symm
            rw [hx] at hcell
            have HQj := Lib.hid (HQ2.out j hlj)
            have HRj := Lib.hid (HRB.out wr hbw j hlj)
            have HLj := Lib.hid (HR2L.out j hlj)
            have HFu := Lib.hid (HFU.out wr hbw)
            have HSn := Lib.hid (HSN.out p j hlj)
            generalize cut A2 ((j + 1) * cb) (j * cb) = Bj at *
            have HFO := Lib.hid (fldFoldF g (FA p j).toNat (FA p j).toNat_lt Bj cb (RB j) As cs (SU p j) wr HFu.out wr.heap.size wr.heap.size HRj.out (Rd.of_own hO.out) HLj.out (HSL.out p j) (Nat.le_refl _) (Nat.le_refl _) (by omega) (by omega) (Nat.le_refl cb))
            rw [HSn.out] at HFO
            unfold NewB at HFO
            clear hx hM hbw HRj HFu HSn had
            generalize FA p j = x at *
            go_wp2_with fail
            refine (HQj.out _).mono ?_
            rintro e w6 ⟨rfl, rfl⟩
            go_wp2_with fail
            refine HFO.out.mono ?_
            rintro e w7 ⟨A7, n7, c7, rfl, hl7, ho7, hb7⟩
            rw [HSL.out] at hl7
            subst hl7
            have HO7 := Lib.hid (own_lowerS ho7 hbx.out.size)
            have HB7 := Lib.hid (hbx.out.via hb7)
            clear ho7 hb7
            go_wp2
            go_roundw
            case rel => exact ⟨j + 1, A7, c7, rfl, by go_num, hlj, HO7, HB7⟩
            case measure => simp [intOf]; omega
          · obtain rfl : j = ca := by omega
            have HTU := Lib.hid (hI.out.via hbx.out)
            have HTKp := Lib.hid (HTK.out p hlt)
            have hcm : wr.cell? ⟨go, 2, none⟩ = some (.slice A' (p * cb) c') := HTU.out.blk.cell 2
            have hgl := HTU.out.blk.lt
            have hsz := hbw.size
            have hpc : p * cb ≤ 255 * 255 := Nat.mul_le_mul (by omega) hcb2
            have HSLp := Lib.hid (HSL.out p j)
            have hpp : Hid ((p + 1) * cb = p * cb + cb) := Lib.hid (Nat.succ_mul p cb)
            clear hI hbw
            go_wp2_with (at_builtin; go_loud (refine appB _ rfl (.tmp 77) (.tmp 78) rfl w3.heap.size A' (p * cb) c' ((F.take (p * cb)).map bv) rfl HTU.out.own _ As cb cs ((SU p j).map bv) rfl (by rw [List.length_map]; exact HSLp.out) (Rd.of_own hO.out) one_bytes (by omega) hsz ?_; intro A3 c3 w8 ho8 hg8 hb8; have hk8 := HTU.out.keptN hg8 HTU.out.blk (by decide); have hcm8 := hk8.cell 2; rw [show (mv (ra : Int) (cb : Int) A' (p * cb) c')[2]? = some (.slice A' (p * cb) c') from rfl] at hcm8; have hfm8 := hk8.frozen 2; have HI8 := Lib.hid (HTU.out.pushN HTKp.out ho8 hg8); clear hk8 ho8 hg8 hb8))
            go_roundw
            case rel => exact ⟨p + 1, A3, c3, by go_num, hlt, Lib.hid (by rw [hpp.out]; exact HI8.out)⟩
            case measure => simp [intOf]; omega
      · obtain rfl : p = ra := by omega
        have hb := hI.out.blk
        have hz := (HMW.out wr hI.out.below).z
        have HII := Lib.hid hI.out
        have HNE : Hid ((Value.slice A' (p * cb) c').ownBlock ≠ some (w.heap.size + 1 + 1)) := Lib.hid fun he => by
          have := Ty.one (own_blockV HII.out.own he).1 hz.ty
          exact absurd this (by decide)
        clear hI hlt
        go_wp2_with (first | (refine wpList_load_row rfl 45 (.tmp 8) rfl go rfl 45 (mv p cb A' (p * cb) c') (0, 0) _ hb Try.underlying45 rfl matInfo3 ?_) | (refine wpList_store_row rfl 45 (.tmp 6) (.tmp 82) rfl (w.heap.size + 1 + 1) (mv p cb A' (p * cb) c') rfl rfl 45 (mv 0 0 none 0 0) hz matInfo3 rfl (mv_one _ _ _ _ _) ?_))
        refine bodyPost_ret (results_mat2 (g := w.heap.size + 1 + 1) (te := 45) (cs := mv p cb A' (p * cb) c') (fr := (0, 0)) rfl _ _ _ rfl (hz.row _) Try.underlying45 rfl matInfo3) rfl ⟨A', c', rfl, HTL.out, ?_, (HS3.out.via HII.out.below).setRow (by omega) (by have := HGL.out; omega) _⟩
        have ho := HII.out.own
        rw [List.take_of_length_le (by rw [HTL.out]; exact Nat.le_refl _)] at ho
        exact own_setRow (own_lowerS ho hgs) HNE.out _
end Cib

end
