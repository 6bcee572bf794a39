/- Texts that are in use elsewhere, put together. -/
import Derived.Test.YthlpcghoijgeiaaLoC
import Derived.Deep.RegionWith
/-! CodP -/
section
set_option linter.unusedVariables false
set_option linter.unusedSimpArgs false
set_option maxRecDepth 20000
namespace Cib
open Go Go.RowKit Go.Proofs
namespace Cod
/-- The factor of data row j in shard i, of a coder of k data rows. -/
def fac (k i j : Nat) : Nat := if i < k then (if i = j then 1 else 0) else (divA 1 (i ^^^ j)).1
theorem fac_lt (k i j : Nat) : fac k i j < 256 := by
  unfold fac
  split
  · split <;> decide
  · exact divA_lt _ _
def facRow (k i : Nat) : List UInt8 := (List.range k).map fun j => UInt8.ofNat (fac k i j)
theorem facRow_length (k i : Nat) : (facRow k i).length = k := by simp [facRow]
theorem ofNat_toNat {n : Nat} (h : n < 256) : (UInt8.ofNat n).toNat = n := by rw [UInt8.toNat_ofNat', Nat.mod_eq_of_lt (by omega)]
theorem facRow_get (k i : Nat) {j : Nat} (h : j < k) : ((facRow k i).getD j 0).toNat = fac k i j := by
  rw [List.getD_eq_getElem?_getD, List.getElem?_eq_getElem (by rw [facRow_length]; exact h), Option.getD_some]
  simp only [facRow, List.getElem_map, List.getElem_range]
  exact ofNat_toNat (fac_lt _ _ _)
/-- The numbers from one on, as bytes. -/
def ris (a n : Nat) : List UInt8 := (List.range n).map fun i => UInt8.ofNat (a + i)
theorem ris_length (a n : Nat) : (ris a n).length = n := by simp [ris]
theorem ris_get {a n i : Nat} (h : i < n) (ha : a + n ≤ 256) : ((ris a n).getD i 0).toNat = a + i := by
  rw [List.getD_eq_getElem?_getD, List.getElem?_eq_getElem (by rw [ris_length]; exact h), Option.getD_some]
  simp only [ris, List.getElem_map, List.getElem_range]
  exact ofNat_toNat (by omega)
theorem ris_next (a n : Nat) : ris a (n + 1) = ris a n ++ [UInt8.ofNat (a + n)] := by simp [ris, List.range_succ]
theorem ris_mem {a n : Nat} {x : UInt8} (ha : a + n ≤ 256) (h : x ∈ ris a n) : a ≤ x.toNat ∧ x.toNat < a + n := by
  simp only [ris, List.mem_map, List.mem_range] at h
  obtain ⟨i, hi, rfl⟩ := h
  rw [ofNat_toNat (by omega)]
  omega
theorem ris_nodup (a : Nat) : ∀ n, a + n ≤ 256 → (ris a n).Nodup
  | 0, _ => by simp [ris]
  | n + 1, h => by
    rw [ris_next]
    refine nodup_snoc (ris_nodup a n (by omega)) fun hm => ?_
    have := (ris_mem (by omega) hm).2
    rw [ofNat_toNat (by omega)] at this
    omega
theorem ris_both {k m : Nat} (h : k + m ≤ 255) : (ris k m ++ ris 0 k).Nodup := by
  rw [List.nodup_append]
  refine ⟨ris_nodup k m (by omega), ris_nodup 0 k (by omega), ?_⟩
  intro x hx y hy e
  subst e
  have h1 := ris_mem (by omega) hx
  have h2 := ris_mem (by omega) hy
  omega
theorem cau_fac {k m i j : Nat} (h : k + m ≤ 255) (hi : i < m) (hj : j < k) : (cauV (ris k m) (ris 0 k) i j).toNat = fac k (k + i) j := by
  rw [cauV_nat, ris_get hi (by omega), ris_get hj (by omega), Nat.zero_add]
  unfold fac
  rw [if_neg (by omega)]
/-- The length of the first row. -/
def len0 (D : List (List UInt8)) : Nat := (D.headD []).length
/-- Are rows of one length? -/
def evn (D : List (List UInt8)) : Bool := D.all fun r => r.length == len0 D
theorem evn_true {D : List (List UInt8)} : evn D = true ↔ ∀ r ∈ D, r.length = len0 D := by simp [evn]
theorem evn_get {D : List (List UInt8)} (h : evn D = true) {j : Nat} (hj : j < D.length) : D[j].length = len0 D := evn_true.1 h _ (List.getElem_mem hj)
theorem len0_eq {D : List (List UInt8)} (h : 0 < D.length) : len0 D = D[0].length := by
  cases D with
  | nil => simp at h
  | cons a l => rfl
/-- The sum of the first p rows, each times its factor. -/
def sumTo (f : List UInt8) (D : List (List UInt8)) (W : Nat) : Nat → List UInt8
  | 0 => List.replicate W 0
  | p + 1 => foB (f.getD p 0).toNat (D.getD p []) (sumTo f D W p)
theorem sumTo_length (f : List UInt8) (D : List (List UInt8)) (W : Nat) : ∀ p, (sumTo f D W p).length = W
  | 0 => by simp [sumTo]
  | p + 1 => by rw [sumTo, foB_length, sumTo_length f D W p]
/-- A byte of shard i: of the first p rows. -/
def shB (k : Nat) (D : List (List UInt8)) (i at_ : Nat) : Nat → Nat
  | 0 => 0
  | p + 1 => shB k D i at_ p ^^^ Fld.gmul (fac k i p) ((D.getD p []).getD at_ 0).toNat
theorem shB_lt (k : Nat) (D : List (List UInt8)) (i at_ : Nat) : ∀ p, shB k D i at_ p < 256
  | 0 => by simp [shB]
  | p + 1 => Fld.xor_lt (shB_lt k D i at_ p) (Fld.gmul_lt (fac_lt _ _ _))
/-- Shard i. -/
def shard (k : Nat) (D : List (List UInt8)) (i : Nat) : List UInt8 := (List.range (len0 D)).map fun at_ => UInt8.ofNat (shB k D i at_ D.length)
theorem shard_length (k : Nat) (D : List (List UInt8)) (i : Nat) : (shard k D i).length = len0 D := by simp [shard]
theorem sumTo_get (k : Nat) (D : List (List UInt8)) (i W : Nat) : ∀ p, p ≤ k → ∀ (at_ : Nat) (h : at_ < (sumTo (facRow k i) D W p).length), (sumTo (facRow k i) D W p)[at_] = UInt8.ofNat (shB k D i at_ p)
  | 0, _, at_, h => by simp [sumTo, shB]
  | p + 1, hp, at_, h => by
    have h1 : at_ < (sumTo (facRow k i) D W p).length := by rw [sumTo_length] at h ⊢; exact h
    have e : (sumTo (facRow k i) D W (p + 1))[at_] = (foB ((facRow k i).getD p 0).toNat (D.getD p []) (sumTo (facRow k i) D W p))[at_]'(by rw [foB_length]; exact h1) := by simp only [sumTo]
    rw [e, foB_get h1, sumTo_get k D i W p (by omega) at_ h1, facRow_get k i (by omega), ofNat_toNat (shB_lt _ _ _ _ _)]
    rfl
theorem sum_shard {k : Nat} {D : List (List UInt8)} (i : Nat) (hk : D.length = k) : sumTo (facRow k i) D (len0 D) k = shard k D i := by
  apply List.ext_getElem
  · rw [sumTo_length, shard_length]
  · intro at_ h1 h2
    rw [sumTo_get k D i _ k (Nat.le_refl _)]
    simp [shard, hk]
theorem shB_data {k : Nat} {D : List (List UInt8)} {i : Nat} (hi : i < k) (at_ : Nat) : ∀ p, shB k D i at_ p = if i < p then ((D.getD i []).getD at_ 0).toNat else 0
  | 0 => by simp [shB]
  | p + 1 => by
    rw [shB, shB_data hi at_ p]
    unfold fac
    rw [if_pos hi]
    by_cases he : i = p
    · subst he
      rw [if_pos rfl, if_neg (by omega), if_pos (by omega), Fld.one_mul_all _ (UInt8.toNat_lt _)]
      simp
    · rw [if_neg he, Fld.zero_mul]
      by_cases hlt : i < p
      · rw [if_pos hlt, if_pos (by omega)]; simp
      · rw [if_neg hlt, if_neg (by omega)]; rfl
/-- The first shards are the data. -/
theorem shard_data {k : Nat} {D : List (List UInt8)} {i : Nat} (hk : D.length = k) (hi : i < k) (he : evn D = true) : shard k D i = D[i] := by
  have hil : i < D.length := by omega
  have hl := evn_get he hil
  apply List.ext_getElem
  · rw [shard_length, hl]
  · intro at_ h1 h2
    simp only [shard, List.getElem_map, List.getElem_range]
    rw [shB_data hi, if_pos (by omega)]
    simp [List.getD, hil, h2]
end Cod
end Cib

end
/-! CodW -/
section
set_option linter.unusedVariables false
set_option linter.unusedSimpArgs false
set_option maxRecDepth 20000
namespace Cib
open Go Go.RowKit Go.Proofs
/-- A coder's cells. -/
def cdC (k m gf : Nat) (A : Option Addr) (c : Nat) : Array Value := #[.int .i64 (k : Int), .int .i64 (m : Int), .pointer (some ⟨gf, 0, none⟩), .int .i64 (m : Int), .int .i64 (k : Int), .slice A (m * k) c]
/-- A coder that was made. -/
structure Cdr (w : World) (g gf k m : Nat) (A : Option Addr) (c : Nat) : Prop where
  blk : Blk w g 52 (cdC k m gf A c)
  rd : Rd w w.heap.size A ((tabN k (cauV (Cod.ris k m) (Cod.ris 0 k)) (m * k)).map bv)
  full : Full w gf
  cap : m * k ≤ c
  max : c ≤ maxLen
  hk : 1 ≤ k
  hm : 1 ≤ m
  hs : k + m ≤ 255
section
variable {w w' : World} {g gf k m c : Nat} {A : Option Addr}
theorem Cdr.below (h : Cdr w g gf k m A c) (hb : Below w.heap.size w w') : Cdr w' g gf k m A c :=
  ⟨h.blk.below hb h.blk.lt, (h.rd.below hb).more hb.size, h.full.on hb, h.cap, h.max, h.hk, h.hm, h.hs⟩
theorem Cdr.drewN (h : Cdr w g gf k m A c) (q : Nat) : Cdr (w.drewN q) g gf k m A c := ⟨h.blk, h.rd, h.full, h.cap, h.max, h.hk, h.hm, h.hs⟩
theorem Cdr.c0 (h : Cdr w g gf k m A c) : w.cell? ⟨g, 0, none⟩ = some (.int .i64 (k : Int)) := h.blk.cell 0
theorem Cdr.c1 (h : Cdr w g gf k m A c) : w.cell? ⟨g, 1, none⟩ = some (.int .i64 (m : Int)) := h.blk.cell 1
theorem Cdr.c2 (h : Cdr w g gf k m A c) : w.cell? ⟨g, 2, none⟩ = some (.pointer (some ⟨gf, 0, none⟩)) := h.blk.cell 2
theorem Cdr.c3 (h : Cdr w g gf k m A c) : w.cell? ⟨g, 3, none⟩ = some (.int .i64 (m : Int)) := h.blk.cell 3
theorem Cdr.c4 (h : Cdr w g gf k m A c) : w.cell? ⟨g, 4, none⟩ = some (.int .i64 (k : Int)) := h.blk.cell 4
theorem Cdr.c5 (h : Cdr w g gf k m A c) : w.cell? ⟨g, 5, none⟩ = some (.slice A (m * k) c) := h.blk.cell 5
theorem cdNone (h : Cdr w g gf k m A c) : Calls Try.prog 18 #[.pointer (some ⟨g, 0, none⟩)] w fun e w' => e = .returned (.bool false) ∧ w' = w := by
  have h2 := h.c2
  go_enter Try.func18, Try.ntmps18
  go_wp2
  go_ret
  exact ⟨rfl, rfl⟩
theorem cdNone0 (w : World) : Calls Try.prog 18 #[.pointer none] w fun e w' => e = .returned (.bool true) ∧ w' = w := by
  go_enter Try.func18, Try.ntmps18
  go_wp2
  go_ret
  exact ⟨rfl, rfl⟩
theorem cdAll (h : Cdr w g gf k m A c) : Calls Try.prog 20 #[.pointer (some ⟨g, 0, none⟩)] w fun e w' => e = .returned (.int .i64 ((k : Int) + m)) ∧ w' = w.drew := by
  have h0 : w.drew.cell? ⟨g, 0, none⟩ = _ := h.c0
  have h1 : w.drew.cell? ⟨g, 1, none⟩ = _ := h.c1
  have hk := h.hk
  have hs := h.hs
  go_enter Try.func20, Try.ntmps20
  go_wp2
  go_region
  all_goals
    go_wp2
    go_ret
    exact ⟨rfl, rfl⟩
theorem cdData (h : Cdr w g gf k m A c) : Calls Try.prog 53 #[.pointer (some ⟨g, 0, none⟩)] w fun e w' => e = .returned (.int .i64 (k : Int)) ∧ w' = w := by
  have h0 := h.c0
  go_enter Try.func53, Try.ntmps53
  go_wp2
  go_ret
  exact ⟨rfl, rfl⟩
theorem cdK (h : Cdr w g gf k m A c) : Calls Try.prog 42 #[.pointer (some ⟨g, 0, none⟩)] w fun e w' => e = .returned (.int .i64 (k : Int)) ∧ w' = w := by
  have H1 := Lib.hid (cdNone h)
  have H2 := Lib.hid (cdData h)
  clear h
  go_enter Try.func42, Try.ntmps42
  go_wp2_with (first | (go_at_call 18; refine H1.out.mono ?_; rintro e w' ⟨rfl, rfl⟩) | (go_at_call 53; refine H2.out.mono ?_; rintro e w' ⟨rfl, rfl⟩))
  go_ret
  exact ⟨rfl, rfl⟩
theorem cdM (h : Cdr w g gf k m A c) : Calls Try.prog 43 #[.pointer (some ⟨g, 0, none⟩)] w fun e w' => e = .returned (.int .i64 (m : Int)) ∧ w' = w := by
  have H1 := Lib.hid (cdNone h)
  have h1 := h.c1
  clear h
  go_enter Try.func43, Try.ntmps43
  go_wp2_with (go_at_call 18; refine H1.out.mono ?_; rintro e w' ⟨rfl, rfl⟩)
  go_ret
  exact ⟨rfl, rfl⟩
theorem cdN (h : Cdr w g gf k m A c) : Calls Try.prog 23 #[.pointer (some ⟨g, 0, none⟩)] w fun e w' => e = .returned (.int .i64 ((k : Int) + m)) ∧ w' = w.drew := by
  have H1 := Lib.hid (cdNone h)
  have H2 := Lib.hid (cdAll h)
  clear h
  go_enter Try.func23, Try.ntmps23
  go_wp2_with (first | (go_at_call 18; refine H1.out.mono ?_; rintro e w' ⟨rfl, rfl⟩) | (go_at_call 20; refine H2.out.mono ?_; rintro e w' ⟨rfl, rfl⟩))
  go_ret
  exact ⟨rfl, rfl⟩
theorem cdField (h : Cdr w g gf k m A c) : Calls Try.prog 77 #[.pointer (some ⟨g, 0, none⟩)] w fun e w' => e = .returned (.pointer (some ⟨gf, 0, none⟩)) ∧ w' = w := by
  have H1 := Lib.hid (cdNone h)
  have h2 := h.c2
  clear h
  go_enter Try.func77, Try.ntmps77
  go_wp2_with (go_at_call 18; refine H1.out.mono ?_; rintro e w' ⟨rfl, rfl⟩)
  go_ret
  exact ⟨rfl, rfl⟩
theorem cdHas (h : Cdr w g gf k m A c) (i : Int) : Calls Try.prog 50 #[.pointer (some ⟨g, 0, none⟩), .int .i64 i] w fun e w' => e = .returned (.bool (decide (0 ≤ i ∧ i < (k : Int) + m))) ∧ Below w.heap.size w w' := by
  have H2 := Lib.hid (cdAll h)
  have hs := h.hs
  have hbl : Below w.heap.size w w.drew := below_drewN (Below.refl _ _) 1
  have HB := Lib.hid hbl
  clear h hbl
  by_cases h0 : 0 ≤ i
  · by_cases h1 : i < (k : Int) + m
    · rw [decide_eq_true ⟨h0, h1⟩]
      go_enter Try.func50, Try.ntmps50
      go_wp2_with (go_at_call 20; refine H2.out.mono ?_; rintro e w' ⟨rfl, rfl⟩)
      go_ret
      exact ⟨rfl, HB.out⟩
    · rw [decide_eq_false (fun x => h1 x.2)]
      have hd : decide (i < (k : Int) + m) = false := by simp; omega
      go_enter Try.func50, Try.ntmps50
      go_wp2_with (go_at_call 20; refine H2.out.mono ?_; rintro e w' ⟨rfl, rfl⟩)
      go_ret
      exact ⟨rfl, HB.out⟩
  · rw [decide_eq_false (fun x => h0 x.1)]
    go_enter Try.func50, Try.ntmps50
    go_wp2_with fail
    go_ret
    exact ⟨rfl, Below.refl _ _⟩
theorem cdOf (B : Nat) (A : Option Addr) (n k : Nat) (f : List UInt8) (j : Nat) (w : World) (hr : Rd w B A (f.map bv)) (hn : f.length = n) (hj : j < n) (hn2 : n ≤ 1000000000) :
    Calls Try.prog 35 #[.slice A n k, .int .i64 (j : Int)] w fun e w' => e = .returned (.int .u8 ((f.getD j 0).toNat : Int)) ∧ w' = w := by
  have hj' : j < f.length := by omega
  obtain ⟨ad, rfl, hb, hc⟩ := hr.byte hj'
  rw [show f.getD j 0 = f[j] from by simp [List.getD, hj']]
  generalize f[j].toNat = x at *
  go_enter Try.func35, Try.ntmps35
  go_wp2
  go_ret
  exact ⟨rfl, rfl⟩
end
/-- Are rows of one length? -/
theorem cdEven (L : List RowB) (B : Nat) (A : Option Addr) (n k : Nat) (w : World) (hr : Rd w B A (L.map RowB.v)) (hl : ∀ r ∈ L, r.bs.length = r.n) (hn : L.length = n) (hn2 : n ≤ maxLen) :
    Calls Try.prog 49 #[.slice A n k] w fun e w' => e = .returned (.bool (Cod.evn (L.map (·.bs)))) ∧ w' = w := by
  unfold maxLen at hn2
  have HR := Lib.hid hr
  have HL := Lib.hid hl
  have HN := Lib.hid hn
  have HE : Hid (Cod.evn (L.map (·.bs)) = true ↔ ∀ j (h : j < L.length), L[j].n = (L.map (·.n)).headD 0) := by
    show _ ↔ _
    have h0 : Cod.len0 (L.map (·.bs)) = (L.map (·.n)).headD 0 := by
      cases L with
      | nil => rfl
      | cons a l => simp [Cod.len0, hl a (by simp)]
    rw [Cod.evn_true, h0]
    constructor
    · intro h j hj
      rw [← hl _ (List.getElem_mem hj)]
      exact h _ (List.mem_map.2 ⟨_, List.getElem_mem hj, rfl⟩)
    · intro h r hr
      obtain ⟨x, hx, rfl⟩ := List.mem_map.1 hr
      obtain ⟨j, hj, rfl⟩ := List.mem_iff_getElem.1 hx
      rw [hl _ (List.getElem_mem hj)]
      exact h j hj
  obtain ⟨E, hE⟩ : ∃ E, Hid (Cod.evn (L.map (·.bs)) = E) := ⟨_, rfl⟩
  rw [hE.out] at HE ⊢
  clear hr hl hn hE
  go_enter Try.func49, Try.ntmps49
  go_wp2
  go_loopw [4, 7] (fun _ i wr => ∃ p : Nat, i = .int .i64 p ∧ p ≤ n ∧ wr = w ∧ Hid (∀ j (h : j < L.length), j < p → L[j].n = (L.map (·.n)).headD 0)) (fun _ i _ => n - (intOf i).toNat)
  case atStart => exact ⟨0, rfl, Nat.zero_le _, rfl, fun j _ hj => by omega⟩
  case round =>
    obtain ⟨p, rfl, hp, rfl, hI⟩ := hrel
    by_cases hlt : p < n
    · have hpl : p < L.length := by rw [HN.out]; exact hlt
      have h0l : 0 < L.length := by omega
      obtain ⟨ad, rfl, hab, hcell⟩ := HR.out.row hpl
      obtain ⟨ad', e0, hab0, hcell0⟩ := HR.out.row h0l
      injection e0 with e0
      subst e0
      rw [addr_add_zero] at hcell0
      have h00 : Hid (L[0].n = (L.map (·.n)).headD 0) := by
        show _ = _
        cases L with
        | nil => simp at h0l
        | cons a l => rfl
      by_cases he : L[p].n = L[0].n
      · have hI2 : Hid (∀ j (h : j < L.length), j < p + 1 → L[j].n = (L.map (·.n)).headD 0) := fun j h hj => by
          by_cases hjp : j = p
          · subst hjp
            exact he.trans h00.out
          · exact hI.out j h (by omega)
        rw [he] at hcell
        clear hI he
        go_wp2
        go_roundw
        case rel => exact ⟨p + 1, by go_num, hlt, by first | rfl | trivial, hI2⟩
        case measure => simp [intOf]; omega
      · obtain rfl : E = false := by
          cases E with
          | false => rfl
          | true => exact absurd ((HE.out.1 rfl p hpl).trans h00.out.symm) he
        generalize L[p] = r1 at *
        generalize L[0] = r0 at *
        have hne : ((r1.n : Int) != r0.n) = true := by rw [bne_iff_ne]; omega
        clear hI h00
        go_wp2
        go_ret
        exact ⟨rfl, rfl⟩
    · obtain rfl : p = n := by omega
      obtain rfl : E = true := HE.out.2 fun j hj => hI.out j hj (by rw [← HN.out]; exact hj)
      go_wp2
      go_ret
      exact ⟨rfl, rfl⟩
theorem cdRight {w : World} {g gf k m c : Nat} {A : Option Addr} (h : Cdr w g gf k m A c) (L : List RowB) (B : Nat) (A2 : Option Addr) (n c2 : Nat) (hr : Rd w B A2 (L.map RowB.v)) (hl : ∀ r ∈ L, r.bs.length = r.n) (hn : L.length = n) (hn2 : n ≤ maxLen) :
    Calls Try.prog 32 #[.pointer (some ⟨g, 0, none⟩), .slice A2 n c2] w fun e w' => e = .returned (.bool (decide (n = k) && Cod.evn (L.map (·.bs)))) ∧ w' = w := by
  have HE := Lib.hid (cdEven L B A2 n c2 w hr hl hn hn2)
  have h0 := h.c0
  clear hr hl hn h
  unfold maxLen at hn2
  generalize Cod.evn (L.map (·.bs)) = E at *
  by_cases he : n = k
  · subst he
    rw [decide_eq_true rfl]
    go_enter Try.func32, Try.ntmps32
    go_wp2_with (go_at_call 49; refine HE.out.mono ?_; rintro e w' ⟨rfl, rfl⟩)
    go_ret
    exact ⟨rfl, rfl⟩
  · rw [decide_eq_false he]
    have hne : ((n : Int) == (k : Int)) = false := by simp; omega
    go_enter Try.func32, Try.ntmps32
    go_wp2_with (go_at_call 49; refine HE.out.mono ?_; rintro e w' ⟨rfl, rfl⟩)
    go_ret
    exact ⟨rfl, rfl⟩
end Cib

end
/-! CodX -/
section
set_option linter.unusedVariables false
set_option linter.unusedSimpArgs false
set_option maxRecDepth 40000
namespace Cib
open Go Go.RowKit Go.Proofs
theorem cdRising (a b : Nat) (hab : a ≤ b) (hb : b ≤ 255) (w : World) : Calls Try.prog 17 #[.int .i64 (a : Int), .int .i64 (b : Int)] w (NewB (Cod.ris a (b - a)) w) := by
  obtain ⟨n, hn⟩ : ∃ n, b - a = n := ⟨_, rfl⟩
  have hn2 : (b : Int) - (a : Int) = (n : Int) := by omega
  have hn3 : n ≤ 255 := by omega
  obtain ⟨i0, hi, hz0, hz1, hz2⟩ := info_parts infoByte
  have hmk : ∀ W : World, (Instr.makeSlice 22 (.int .i64 0) (.int .i64 (n : Int))).run Try.prog W = .ok (.slice (some ⟨W.heap.size, 0, none⟩) 0 n) (W.alloc (.cells (madeCells #[.int .u8 0] n) 5)) := fun W => by
    have := run_make (P := Try.prog) W 22 5 i0 (.int .u8 0) Try.underlying22 hi hz0 .i64 .i64 0 (n : Int) (by omega) (by omega) (by rw [hz2]; omega) (by omega)
    rw [hz1, Nat.mul_one, Int.toNat_natCast] at this
    exact this
  rw [hn]
  go_enter Try.func17, Try.ntmps17
  go_wp2
  go_loopw [5, 6] (fun l i wr => ∃ (p : Nat) (A : Option Addr) (c : Nat), i = .int .i64 ((a + p : Nat) : Int) ∧ l = .slice A p c ∧ p ≤ n ∧ Hid (wr.ownsRow w.heap.size 5 1 (.slice A p c) p ((Cod.ris a p).map bv)) ∧ Hid (Below w.heap.size w wr)) (fun _ i _ => b - (intOf i).toNat)
  case atStart =>
    refine ⟨0, some ⟨w.heap.size, 0, none⟩, n, by go_num, rfl, Nat.zero_le _, ?_, (Below.refl _ _).alloc (Nat.le_refl _) _⟩
    have := own_made w w.heap.size 5 (.int .u8 0) 0 n (Nat.le_refl _) (Nat.zero_le _) (by unfold maxLen; omega)
    show World.ownsRow _ _ _ _ _ _ _
    simpa [Cod.ris] using this
  case round =>
    obtain ⟨p, A, c, rfl, rfl, hp, hO, hB⟩ := hrel
    by_cases hlt : p < n
    · obtain ⟨x, hx⟩ : ∃ x, a + p = x := ⟨_, rfl⟩
      rw [hx]
      have hxl : x < b := by omega
      obtain ⟨z, hz, hzn⟩ := byte_mk (show x < 256 by omega)
      have hcv : IntKind.u8.wrap (x : Int) = (z.toNat : Int) := by rw [IntKind.wrap_u8, ← hzn]; omega
      have HN : Hid ((Cod.ris a (p + 1)).map bv = (Cod.ris a p).map bv ++ [bv z]) := by
        show _ = _
        rw [Cod.ris_next, hx, hz.out, List.map_append]
        rfl
      have hs := hB.out.size
      go_wp2_with (at_builtin; refine appB _ rfl (.tmp 17) (.tmp 20) rfl w.heap.size A p c ((Cod.ris a p).map bv) rfl (hO.out.alloc _) _ (some ⟨wr.heap.size, 0, none⟩) 1 1 [bv z] rfl rfl (Rd.new wr _ _ _ (by simp [bv, hcv])) one_byte (by omega) (by simp; omega) ?_; intro A1 c1' w1 ho1 hg1 hb1)
      go_roundw
      case rel => exact ⟨p + 1, A1, c1', by go_num, rfl, hlt, by (show World.ownsRow _ _ _ _ _ _ _; rw [HN.out]; exact ho1), (hB.out.alloc hs _).trans hb1⟩
      case measure => simp [intOf]; omega
    · obtain rfl : p = n := by omega
      have hx : ((a + p : Nat) : Int) = (b : Int) := by omega
      rw [hx]
      go_wp2
      go_ret
      exact ⟨A, p, c, rfl, Cod.ris_length _ _, hO.out, hB.out⟩
theorem Stp.pre {w w1 w2 : World} {g : Nat} (hb : Below w.heap.size w w1) (h : Stp g w1 w2) : Stp g w w2 :=
  ⟨h.full, h.os.trans hb.os, h.tape.trans hb.tape, h.output.trans hb.output, Nat.le_trans hb.size h.size, fun k hk hkg => (h.oth k (Nat.lt_of_lt_of_le hk hb.size) hkg).trans (hb.block k hk)⟩
/-- May a coder be of so many rows? -/
def mayC (k m : Int) : Prop := 1 ≤ k ∧ 1 ≤ m ∧ k ≤ 255 ∧ m ≤ 255 - k
theorem cdNew0 (p : Value) (k m : Int) (h : ¬ mayC k m) (hk : -9223372036854775808 ≤ k ∧ k ≤ 9223372036854775807) (hm : -9223372036854775808 ≤ m ∧ m ≤ 9223372036854775807) (w : World) :
    Calls Try.prog 5 #[p, .int .i64 k, .int .i64 m] w fun e w' => e = .returned (.pointer none) ∧ w' = w := by
  unfold mayC at h
  by_cases h1 : k < 1
  · go_enter Try.func5, Try.ntmps5
    go_wp2
    go_ret
    exact ⟨rfl, rfl⟩
  · by_cases h2 : m < 1
    · go_enter Try.func5, Try.ntmps5
      go_wp2
      go_ret
      exact ⟨rfl, rfl⟩
    · by_cases h3 : 255 < k
      · go_enter Try.func5, Try.ntmps5
        go_wp2
        go_ret
        exact ⟨rfl, rfl⟩
      · have h4 : 255 - k < m := by omega
        go_enter Try.func5, Try.ntmps5
        go_wp2
        go_ret
        exact ⟨rfl, rfl⟩
set_option maxHeartbeats 1600000 in
theorem cdNew (gf k m : Nat) (hk : 1 ≤ k) (hm : 1 ≤ m) (hs : k + m ≤ 255) (w : World) (h : Fld w gf) : Calls Try.prog 5 #[.pointer (some ⟨gf, 0, none⟩), .int .i64 (k : Int), .int .i64 (m : Int)] w fun e w' =>
    ∃ g A c, e = .returned (.pointer (some ⟨g, 0, none⟩)) ∧ w.heap.size ≤ g ∧ Cdr w' g gf k m A c ∧ Stp gf w w' := by
  have HG := Lib.hid h.lt
  have HR1 := Lib.hid (fun W => cdRising k (k + m) (by omega) (by omega) W)
  have HR2 := Lib.hid (fun W => cdRising 0 k (by omega) (by omega) W)
  rw [show k + m - k = m from by omega, show ((k + m : Nat) : Int) = (k : Int) + m from by omega] at HR1
  rw [Nat.sub_zero] at HR2
  go_enter Try.func5, Try.ntmps5
  go_wp2_with fail
  refine (HR1.out _).mono ?_
  rintro e w1 ⟨A1, n1, c1, rfl, hn1, ho1, hb1⟩
  rw [Cod.ris_length] at hn1
  subst hn1
  go_wp2_with fail
  refine (HR2.out _).mono ?_
  rintro e w2 ⟨A2, n2, c2, rfl, hn2, ho2, hb2⟩
  rw [Cod.ris_length] at hn2
  subst hn2
  have hb12 := hb1.via hb2
  have hf2 : Fld w2 gf := by
    rcases h with h | h
    · exact .inl (h.below hb12 h.lt)
    · exact .inr (h.below hb12 h.lt)
  have hz1 := hb1.size
  have hz2 := hb2.size
  have hap : ∀ {W : World} {b : Nat} {A : Option Addr} {n c : Nat} {vs : List Value}, w.heap.size ≤ b → W.ownsRow b 5 1 (.slice A n c) n vs → 0 < n → ∀ ad, A = some ad → ad.block ≠ gf := by
    intro W b A n c vs hb ho hn ad e
    obtain ⟨g', rfl, hg'⟩ := own_at ho hn
    injection e with e
    subst e
    have := HG.out
    show g' ≠ gf
    omega
  have hC := matCauchy gf A1 A2 m k c1 c2 _ _ w2 hf2 w2.heap.size (Nat.le_refl _) (((Rd.of_own ho1).below hb2).more hz2) (Rd.of_own ho2) (hap (Nat.le_refl _) ho1 (by omega)) (hap hz1 ho2 (by omega)) (Cod.ris_length _ _) (Cod.ris_length _ _) (own_cap ho1).1 (own_cap ho2).1 (own_cap ho1).2 (own_cap ho2).2 (by omega) (by omega) (Cod.ris_both hs)
  have HB12 := Lib.hid hb12
  have HC := Lib.hid hC
  clear ho1 ho2 hb1 hb2 hf2 hap hb12 hC h
  go_wp2_with fail
  refine HC.out.mono ?_
  rintro e w3 ⟨A, c, rfl, hl3, ho3, hs3⟩
  have HO3 := Lib.hid ho3
  have HS3 := Lib.hid hs3
  have hz3 := hs3.size
  clear ho3 hs3 HC
  unfold mv
  have hr : Blk (w3.alloc (.cells #[.int .i64 0, .int .i64 0, .slice none 0 0] 45)) w3.heap.size 45 #[.int .i64 0, .int .i64 0, .slice none 0 0] := Blk.new _ _ _
  go_wp2_with (first | (refine wpList_load_row rfl 45 (.tmp 7) rfl w3.heap.size rfl 45 (mv m k A (m * k) c) (0, 0) _ (hr.row _) Try.underlying45 rfl matInfo3 ?_; unfold mv) | (refine wpList_store_row rfl 45 (.tmp 7) (.tmp 35) rfl w3.heap.size (mv m k A (m * k) c) rfl rfl 45 (mv 0 0 none 0 0) hr matInfo3 rfl (mv_one _ _ _ _ _) ?_))
  go_ret
  have hb4 : Below w3.heap.size w3 (((w3.alloc (.cells #[.int .i64 0, .int .i64 0, .slice none 0 0] 45)).setRow w3.heap.size (mv m k A (m * k) c)).alloc (.cells (cdC k m gf A c) 52)) :=
    (below_setRow ((Below.refl _ _).alloc (Nat.le_refl _) _) (Nat.le_refl _) _).alloc (by rw [size_setRow]; simp) _
  have hN := Blk.new ((w3.alloc (.cells #[.int .i64 0, .int .i64 0, .slice none 0 0] 45)).setRow w3.heap.size (mv m k A (m * k) c)) 52 (cdC k m gf A c)
  rw [size_setRow, World.size_alloc] at hN
  refine ⟨_, A, c, rfl, by omega, ⟨hN, ?_, HS3.out.full.on hb4, (own_cap HO3.out).1, (own_cap HO3.out).2, hk, hm, hs⟩, Stp.pre HB12.out (HS3.out.via hb4)⟩
  exact ((Rd.of_own HO3.out).below hb4).more hb4.size
end Cib

end
/-! CodR -/
section
set_option linter.unusedVariables false
set_option linter.unusedSimpArgs false
set_option maxRecDepth 40000
namespace Cib
open Go Go.RowKit Go.Proofs
set_option maxHeartbeats 1600000 in
theorem matAt (r c i j : Nat) (A : Option Addr) (n k : Nat) (bs : List UInt8) (w : World) (hr : Rd w w.heap.size A (bs.map bv)) (hn : bs.length = n) (hk : n ≤ k) (hm : mr r c n = true) (hi : i < r) (hj : j < c) :
    Calls Try.prog 51 #[.agg (mv r c A n k), .int .i64 (i : Int), .int .i64 (j : Int)] w fun e w' => e = .returned (.int .u8 ((bs.getD (i * c + j) 0).toNat : Int)) ∧ Below w.heap.size w w' := by
  obtain ⟨hm1, hm2, hm3⟩ := mr_true.1 hm
  have hn2 : n = r * c := by
    have : (n : Int) = ((r * c : Nat) : Int) := by rw [hm3]; simp
    omega
  have hrow : (i + 1) * c ≤ n := by rw [hn2]; exact Nat.mul_le_mul_right _ hi
  have hlt : i * c + j < bs.length := by
    rw [hn]
    have : (i + 1) * c = i * c + c := Nat.succ_mul i c
    omega
  have hnb : n ≤ 65025 := by
    have : r * c ≤ 255 * 255 := Nat.mul_le_mul (by omega) (by omega)
    omega
  have hal : Below w.heap.size w (w.alloc (.cells (mv r c A n k) 45)) := (Below.refl _ _).alloc (Nat.le_refl _) _
  have HRI := Lib.hid (fun W => matRight (r : Int) (c : Int) A n k (by omega) W)
  rw [hm] at HRI
  have HRO := Lib.hid (fun W => matRow A n k c i (by omega) hrow (by omega) hk W)
  have hb := Blk.new w 45 (mv r c A n k)
  have HR := Lib.hid (hr.below hal)
  have HAL := Lib.hid hal
  have HB := Lib.hid hb
  have HLT := Lib.hid hlt
  have HN := Lib.hid hn
  clear hr hm hm3 hn2 hal hb hn hlt
  have hi2 : i ≤ 255 := by omega
  have hcc : c ≤ 255 := by omega
  obtain ⟨x, hx⟩ : ∃ x, Hid (bs.getD (i * c + j) 0 = x) := ⟨_, rfl⟩
  rw [hx.out]
  go_enter Try.func51, Try.ntmps51
  unfold mv at *
  go_wp2_with fail
  refine (HRI.out _).mono ?_
  rintro e w1 ⟨rfl, hb1⟩
  have hb2 := HB.out.below hb1 HB.out.lt
  have h0 : w1.cell? ⟨w.heap.size, 0, none⟩ = some (.int .i64 (r : Int)) := hb2.cell 0
  have h1 : w1.cell? ⟨w.heap.size, 1, none⟩ = some (.int .i64 (c : Int)) := hb2.cell 1
  have h2 : w1.cell? ⟨w.heap.size, 2, none⟩ = some (.slice A n k) := hb2.cell 2
  have HR1 := Lib.hid (HR.out.below (hb1.mono (by simp)))
  have HB1 := Lib.hid (HAL.out.trans (hb1.mono (by simp)))
  clear hb1 hb2 HB HR
  go_wp2_with fail
  refine (HRO.out _).mono ?_
  rintro e w' ⟨rfl, rfl⟩
  obtain ⟨ad, rfl, hab, hcell⟩ := HR1.out.byte HLT.out
  have hxe : bs[i * c + j]'HLT.out = x := by rw [← hx.out]; simp [List.getD, HLT.out]
  rw [hxe] at hcell
  have hcut : cut (some ad) ((i + 1) * c) (i * c) = some (ad.add (i * c)) := by
    unfold cut
    rw [if_neg (by have : (i + 1) * c = i * c + c := Nat.succ_mul i c; omega)]
    rfl
  rw [hcut]
  have hcell2 : w'.cell? ((ad.add (i * c)).add j) = some (.int .u8 (x.toNat : Int)) := by rw [addr_add_add]; exact hcell
  generalize ad.add (i * c) = ae at *
  clear hcell hcut hxe hx
  go_wp2
  go_ret
  exact ⟨rfl, HB1.out⟩
theorem Cdr.k0 {w : World} {g gf k m c : Nat} {A : Option Addr} (h : Blk w g 52 (cdC k m gf A c)) : w.cell? ⟨g, 0, none⟩ = some (.int .i64 (k : Int)) := h.cell 0
theorem Cdr.k345 {w : World} {g gf k m c : Nat} {A : Option Addr} (h : Blk w g 52 (cdC k m gf A c)) : w.cell? ⟨g, 3, none⟩ = some (.int .i64 (m : Int)) ∧ w.cell? ⟨g, 4, none⟩ = some (.int .i64 (k : Int)) ∧ w.cell? ⟨g, 5, none⟩ = some (.slice A (m * k) c) := ⟨h.cell 3, h.cell 4, h.cell 5⟩
theorem Cod.facRow_data {k i : Nat} (h : i < k) : (List.replicate k (0 : UInt8)).set i 1 = Cod.facRow k i := by
  apply List.ext_getElem
  · simp [Cod.facRow]
  · intro j h1 h2
    simp only [Cod.facRow, List.getElem_map, List.getElem_range, List.getElem_set, List.getElem_replicate, Cod.fac, if_pos h]
    split <;> rfl
theorem own_ne {w : World} {base g k n c : Nat} {e t : TypeId} {cs : Array Value} {vs : List Value} (h : w.ownsRow base e 1 (.slice (some ⟨g, 0, none⟩) n c) n vs) (hb : Blk w k t cs) (ht : t ≠ e) : k ≠ g := by
  intro he
  subst he
  exact ht (Ty.one (w := w) ⟨_, _, hb⟩ (own_block h))
theorem cdRowOut {w : World} {g gf k m c : Nat} {A : Option Addr} (h : Cdr w g gf k m A c) (i : Int) (hi : ¬ (0 ≤ i ∧ i < (k : Int) + m)) : Calls Try.prog 33 #[.pointer (some ⟨g, 0, none⟩), .int .i64 i] w fun e w' => e = .returned (.slice none 0 0) ∧ Below w.heap.size w w' := by
  have H1 := Lib.hid (cdNone h)
  have H2 := Lib.hid (cdHas h i)
  rw [decide_eq_false hi] at H2
  clear h hi
  go_enter Try.func33, Try.ntmps33
  go_wp2_with (first | (go_at_call 18; refine H1.out.mono ?_; rintro e w' ⟨rfl, rfl⟩) | (go_at_call 50; refine H2.out.mono ?_; rintro e w' ⟨rfl, hb⟩))
  go_ret
  exact ⟨rfl, hb⟩
set_option maxHeartbeats 800000 in
theorem cdRow {w : World} {g gf k m c : Nat} {A : Option Addr} (h : Cdr w g gf k m A c) (i : Nat) (hi : i < k + m) : Calls Try.prog 33 #[.pointer (some ⟨g, 0, none⟩), .int .i64 (i : Int)] w (NewB (Cod.facRow k i) w) := by
  have H1 := Lib.hid (cdNone h)
  have H2 := Lib.hid (cdHas h (i : Int))
  rw [decide_eq_true (by omega)] at H2
  have hk := h.hk
  have hs := h.hs
  have HC := Lib.hid h
  have hmk := makeB k (by omega)
  clear h
  go_enter Try.func33, Try.ntmps33
  go_wp2_with fail
  refine H1.out.mono ?_
  rintro e w' ⟨rfl, rfl⟩
  go_wp2_with fail
  refine H2.out.mono ?_
  rintro e w1 ⟨rfl, hb1⟩
  have hC1 := HC.out.below hb1
  have hal : Below w1.heap.size w1 (w1.alloc (.cells (madeCells #[.int .u8 0] k) 5)) := (Below.refl _ _).alloc (Nat.le_refl _) _
  have hC2 := hC1.below hal
  have h0 := hC1.c0
  have h02 := hC2.c0
  have hO := own_made w1 w1.heap.size 5 (.int .u8 0) k k (Nat.le_refl _) (Nat.le_refl _) (by unfold maxLen; omega)
  have HB1 := Lib.hid hb1
  have HS1 := Lib.hid hb1.size
  by_cases hik : i < k
  · have HST := Lib.hid (own_new w1 (base := w'.heap.size) 5 ((madeCells #[.int .u8 0] k).setIfInBounds i (.int .u8 1)) (n := k) HS1.out (by simp [size_madeCells]) (by unfold maxLen; omega) (vs := (Cod.facRow k i).map bv) (by
      rw [← Cod.facRow_data hik]
      apply List.ext_getElem
      · simp [size_madeCells]
      · intro j h1 h2
        have hj : j < k := by simpa using h2
        rw [Array.getElem_toList, Array.getElem_setIfInBounds (by rw [size_madeCells]; simpa using hj)]
        simp only [List.getElem_map, List.getElem_set, List.getElem_replicate]
        split
        · rfl
        · simp [madeCells, bv, Nat.mod_one]))
    have hmc : (madeCells #[.int .u8 0] k)[i]? = some (.int .u8 0) := by
      rw [Array.getElem?_eq_getElem (by rw [size_madeCells]; simpa using hik)]
      simp [madeCells, Nat.mod_one]
    clear hO hC1 hC2 HC hal
    go_wp2
    go_ret
    exact ⟨_, _, _, rfl, Cod.facRow_length _ _, HST.out, HB1.out.alloc HS1.out _⟩
  · obtain ⟨F, hF⟩ : ∃ F, Hid (Cod.facRow k i = F) := ⟨_, rfl⟩
    have HFL : Hid (F.length = k) := (show _ = _ by rw [← hF.out]; exact Cod.facRow_length _ _)
    have HO : Hid ((w1.alloc (.cells (madeCells #[.int .u8 0] k) 5)).ownsRow w1.heap.size 5 1 (.slice (some ⟨w1.heap.size, 0, none⟩) k k) k ((fillB F 0).map bv)) := by
      show World.ownsRow _ _ _ _ _ _ _
      rw [fillB_zero, List.map_replicate, HFL.out]
      exact hO
    rw [hF.out]
    have HC1 := Lib.hid hC1
    have HAL := Lib.hid hal
    obtain ⟨x, hx⟩ : ∃ x : Nat, i = k + x := ⟨i - k, by omega⟩
    subst hx
    have hxm : x < m := by omega
    clear hO hal hC1 hC2 HC hb1 H1 H2
    go_wp2
    go_loopw [6, 36] (fun _ j wr => ∃ q : Nat, j = .int .i64 q ∧ q ≤ k ∧ Hid (wr.ownsRow w1.heap.size 5 1 (.slice (some ⟨w1.heap.size, 0, none⟩) k k) k ((fillB F q).map bv)) ∧ Hid (Below w1.heap.size w1 wr)) (fun _ j _ => k - (intOf j).toNat)
    case atStart => exact ⟨0, rfl, Nat.zero_le _, HO, HAL⟩
    case round =>
      clear HO HAL h0 h02
      obtain ⟨q, rfl, hq, HO, HBr⟩ := hrel
      by_cases hlt : q < k
      · have hC := HC1.out.below HBr.out
        have hm3 : mr (m : Int) (k : Int) (m * k) = true := mr_true.2 ⟨by have := hC.hm; omega, by omega, by simp⟩
        have HAT := Lib.hid (matAt m k x q A (m * k) c _ wr.drew hC.rd (tabN_length _ _ _) hC.cap hm3 hxm hlt)
        have HBK : Hid (Blk wr.drew g 52 (cdC k m gf A c)) := hC.blk
        have hlf : q < F.length := by rw [HFL.out]; exact hlt
        have HV : Hid (F[q] = (tabN k (cauV (Cod.ris k m) (Cod.ris 0 k)) (m * k)).getD (x * k + q) 0) := by
          show _ = _
          have hlq : x * k + q < m * k := by
            calc x * k + q < x * k + k := by omega
              _ = (x + 1) * k := (Nat.succ_mul x k).symm
              _ ≤ m * k := Nat.mul_le_mul_right _ hxm
          rw [List.getD_eq_getElem?_getD, List.getElem?_eq_getElem (by rw [tabN_length]; exact hlq), Option.getD_some, tabN_get]
          have e1 : (x * k + q) / k = x := by rw [Nat.mul_comm, Nat.mul_add_div (by omega), Nat.div_eq_of_lt hlt]; rfl
          have e2 : (x * k + q) % k = q := by rw [Nat.mul_comm, Nat.mul_add_mod, Nat.mod_eq_of_lt hlt]
          rw [e1, e2]
          apply UInt8.toNat_inj.1
          rw [Cod.cau_fac hs hxm hlt, ← Cod.facRow_get k (k + x) hlt, hF.out]
          simp [List.getD, hlf]
        obtain ⟨z, hz⟩ : ∃ z, Hid ((tabN k (cauV (Cod.ris k m) (Cod.ris 0 k)) (m * k)).getD (x * k + q) 0 = z) := ⟨_, rfl⟩
        rw [hz.out] at HAT HV
        have HFS := Lib.hid (fillB_set F q hlf)
        have HFN := Lib.hid (fillB_length F q (by omega))
        rw [HV.out] at HFS
        have HO2 : Hid (wr.drew.ownsRow w1.heap.size 5 1 (.slice (some ⟨w1.heap.size, 0, none⟩) k k) k ((fillB F q).map bv)) := HO.out
        have HBr2 : Hid (Below w1.heap.size w1 wr.drew) := below_drewN HBr.out 1
        have hxk : IntKind.i64.wrap ((k : Int) + (x : Int) - (k : Int)) = (x : Int) := by rw [IntKind.wrap_i64]; omega
        have hxw : IntKind.i64.wrap (x : Int) = (x : Int) := by rw [IntKind.wrap_i64]; omega
        clear hC hz HO HBr
        go_wp2
        refine wp_region_held_drew (S := (fun wQq => Blk wQq g 52 (cdC k m gf A c))) (by kernel_rfl) (HBK.out) (fun _ => ?_)
        refine wpAnyH_take (i := 0) (v := ?_) rfl (by kernel_rfl) (by kernel_rfl) (by kernel_rfl) (fun _ _ _ h => h) (Or.inl ⟨by rfl, ?_⟩) (HBK.out) ?_
        rotate_left
        · intro wS hSw
          go_simp
          try with_reducible rfl
        try simp only [List.getElem_toArray, List.getElem_cons_zero, List.getElem_cons_succ, Act.put, List.setIfInBounds_toArray, List.set_cons_zero, List.set_cons_succ]
        refine wpAnyH_take (i := 1) (v := ?_) rfl (by kernel_rfl) (by kernel_rfl) (by kernel_rfl) (fun _ _ _ h => h) (Or.inl ⟨by rfl, ?_⟩) (HBK.out) ?_
        rotate_left
        · intro wS hSw
          go_simp
          try with_reducible rfl
        try simp only [List.getElem_toArray, List.getElem_cons_zero, List.getElem_cons_succ, Act.put, List.setIfInBounds_toArray, List.set_cons_zero, List.set_cons_succ]
        refine wpAnyH_take (i := 2) (v := ?_) rfl (by kernel_rfl) (by kernel_rfl) (by kernel_rfl) (fun _ _ _ h => h) (Or.inl ⟨by rfl, ?_⟩) (HBK.out) ?_
        rotate_left
        · intro wS hSw
          go_simp
          try with_reducible rfl
        try simp only [List.getElem_toArray, List.getElem_cons_zero, List.getElem_cons_succ, Act.put, List.setIfInBounds_toArray, List.set_cons_zero, List.set_cons_succ]
        refine wpAnyH_take (i := 3) (v := ?_) rfl (by kernel_rfl) (by kernel_rfl) (by kernel_rfl) (fun _ _ _ h => h) (Or.inl ⟨by rfl, ?_⟩) (HBK.out) ?_
        rotate_left
        · intro wS hSw
          go_simp
          try with_reducible rfl
        try simp only [List.getElem_toArray, List.getElem_cons_zero, List.getElem_cons_succ, Act.put, List.setIfInBounds_toArray, List.set_cons_zero, List.set_cons_succ]
        refine wpAnyH_take (i := 4) (v := ?_) rfl (by kernel_rfl) (by kernel_rfl) (by kernel_rfl) (fun _ _ _ h => h) (Or.inl ⟨by rfl, ?_⟩) (HBK.out) ?_
        rotate_left
        · intro wS hSw
          go_simp
          try with_reducible rfl
        try simp only [List.getElem_toArray, List.getElem_cons_zero, List.getElem_cons_succ, Act.put, List.setIfInBounds_toArray, List.set_cons_zero, List.set_cons_succ]
        refine wpAnyH_take (i := 6) (v := ?_) rfl (by kernel_rfl) (by kernel_rfl) (by kernel_rfl) (fun _ _ _ h => h) (Or.inl ⟨by rfl, ?_⟩) (HBK.out) ?_
        rotate_left
        · intro wS hSw
          go_simp
          try with_reducible rfl
        try simp only [List.getElem_toArray, List.getElem_cons_zero, List.getElem_cons_succ, Act.put, List.setIfInBounds_toArray, List.set_cons_zero, List.set_cons_succ]
        refine wpAnyH_take (i := 7) (v := ?_) rfl (by kernel_rfl) (by kernel_rfl) (by kernel_rfl) (fun _ _ _ h => h) (Or.inl ⟨by rfl, ?_⟩) (HBK.out) ?_
        rotate_left
        · intro wS hSw
          go_simp
          try with_reducible rfl
        try simp only [List.getElem_toArray, List.getElem_cons_zero, List.getElem_cons_succ, Act.put, List.setIfInBounds_toArray, List.set_cons_zero, List.set_cons_succ]
        refine wpAnyH_take (i := 8) (v := ?_) rfl (by kernel_rfl) (by kernel_rfl) (by kernel_rfl) (fun _ _ _ h => h) (Or.inl ⟨by rfl, ?_⟩) (HBK.out) ?_
        rotate_left
        · intro wS hSw
          go_simp
          try with_reducible rfl
        try simp only [List.getElem_toArray, List.getElem_cons_zero, List.getElem_cons_succ, Act.put, List.setIfInBounds_toArray, List.set_cons_zero, List.set_cons_succ]
        refine wpAnyH_take (i := 9) (v := ?_) rfl (by kernel_rfl) (by kernel_rfl) (by kernel_rfl) (fun _ _ _ h => h) (Or.inl ⟨by rfl, ?_⟩) (HBK.out) ?_
        rotate_left
        · intro wS hSw
          go_simp
          try with_reducible rfl
        try simp only [List.getElem_toArray, List.getElem_cons_zero, List.getElem_cons_succ, Act.put, List.setIfInBounds_toArray, List.set_cons_zero, List.set_cons_succ]
        refine wpAnyH_take (i := 10) (v := ?_) rfl (by kernel_rfl) (by kernel_rfl) (by kernel_rfl) (fun _ _ _ h => h) (Or.inl ⟨by rfl, ?_⟩) (HBK.out) ?_
        rotate_left
        · intro wS hSw
          go_simp
          try with_reducible rfl
        try simp only [List.getElem_toArray, List.getElem_cons_zero, List.getElem_cons_succ, Act.put, List.setIfInBounds_toArray, List.set_cons_zero, List.set_cons_succ]
        refine wpAnyH_take (i := 13) (v := ?_) rfl (by kernel_rfl) (by kernel_rfl) (by kernel_rfl) (fun _ _ _ h => h) (Or.inl ⟨by rfl, ?_⟩) (HBK.out) ?_
        rotate_left
        · intro wS hSw
          go_simp
          try with_reducible rfl
        try simp only [List.getElem_toArray, List.getElem_cons_zero, List.getElem_cons_succ, Act.put, List.setIfInBounds_toArray, List.set_cons_zero, List.set_cons_succ]
        refine wpAnyH_take (i := 5) (v := ?_) rfl (by kernel_rfl) (by kernel_rfl) (by kernel_rfl) (fun _ _ _ h => h) (Or.inl ⟨by rfl, ?_⟩) (HBK.out) ?_
        rotate_left
        · intro wS hSw
          have hcv := Cdr.k345 hSw
          go_simp
          try with_reducible rfl
        try simp only [List.getElem_toArray, List.getElem_cons_zero, List.getElem_cons_succ, Act.put, List.setIfInBounds_toArray, List.set_cons_zero, List.set_cons_succ]
        refine wpAnyH_take (i := 11) (v := ?_) rfl (by kernel_rfl) (by kernel_rfl) (by kernel_rfl) (fun _ _ _ h => h) (Or.inl ⟨by rfl, ?_⟩) (HBK.out) ?_
        rotate_left
        · intro wS hSw
          have hcv := Cdr.k0 hSw
          go_simp
          try with_reducible rfl
        try simp only [List.getElem_toArray, List.getElem_cons_zero, List.getElem_cons_succ, Act.put, List.setIfInBounds_toArray, List.set_cons_zero, List.set_cons_succ]
        refine wpAnyH_take (i := 12) (v := ?_) rfl (by kernel_rfl) (by kernel_rfl) (by kernel_rfl) (fun _ _ _ h => h) (Or.inl ⟨by rfl, ?_⟩) (HBK.out) ?_
        rotate_left
        · intro wS hSw
          go_simp
          try with_reducible rfl
        try simp only [List.getElem_toArray, List.getElem_cons_zero, List.getElem_cons_succ, Act.put, List.setIfInBounds_toArray, List.set_cons_zero, List.set_cons_succ]
        refine wpAnyH_ready (rs := [14]) (by kernel_rfl) (by simp) ?_
        refine AllReadyH.cons rfl (fun K hK => ?_) AllReadyH.nil
        go_simp
        refine HAT.out.mono ?_
        rintro e w3 ⟨rfl, hb3⟩
        have hbk3 := HBK.out.below hb3 HBK.out.lt
        have ho3 := own_via HO2.out hb3
        obtain ⟨hc4, hf4, hset4⟩ := own_byte ho3 (j := q) (by rw [HFN.out]; exact hlf)
        have hS4 := hset4 z 0
        rw [HFS.out] at hS4
        have HS4 := Lib.hid hS4
        have hne := own_ne ho3 hbk3 (by decide)
        have HBK4 := Lib.hid (hbk3.far (p := ⟨w1.heap.size, q, none⟩) hne (.int .u8 (z.toNat : Int)))
        have HBB := Lib.hid ((HBr2.out.trans (hb3.mono HBr2.out.size)).setCell (p := ⟨w1.heap.size, q, none⟩) (Nat.le_refl _) (.int .u8 (z.toNat : Int)))
        clear hset4 hS4 ho3 hb3 hne
        refine hK.out _ _ hbk3 (fun _ => ?_)
        clear hK K
        try simp only [List.getElem_toArray, List.getElem_cons_zero, List.getElem_cons_succ, Act.put, List.setIfInBounds_toArray, List.set_cons_zero, List.set_cons_succ]
        refine wpAnyH_take (i := 15) (v := ?_) rfl (by kernel_rfl) (by kernel_rfl) (by kernel_rfl) (fun _ _ _ h => h) (Or.inl ⟨by rfl, ?_⟩) hbk3 ?_
        rotate_left
        · intro wS hSw
          go_simp
          try with_reducible rfl
        try simp only [List.getElem_toArray, List.getElem_cons_zero, List.getElem_cons_succ, Act.put, List.setIfInBounds_toArray, List.set_cons_zero, List.set_cons_succ]
        refine wpAnyH_ready (rs := [16]) (by kernel_rfl) (by simp) ?_
        refine AllReadyH.cons rfl (fun K hK => ?_) AllReadyH.nil
        go_simp
        refine hK.out _ _ HBK4.out (fun _ => ?_)
        clear hK K
        try simp only [List.getElem_toArray, List.getElem_cons_zero, List.getElem_cons_succ, Act.put, List.setIfInBounds_toArray, List.set_cons_zero, List.set_cons_succ]
        refine wpAnyH_done (by kernel_rfl) ?_ _
        go_wp2
        go_roundw
        case rel => exact ⟨q + 1, by go_num, hlt, HS4, HBB⟩
        case measure => simp [intOf]; omega
      · obtain rfl : q = k := by omega
        have HO3 : Hid (wr.ownsRow w1.heap.size 5 1 (.slice (some ⟨w1.heap.size, 0, none⟩) q q) q (F.map bv)) := by
          show World.ownsRow _ _ _ _ _ _ _
          rw [show F = fillB F q from by rw [← HFL.out, fillB_all]]
          exact HO.out
        clear HO
        go_wp2
        go_ret
        exact ⟨_, _, _, rfl, by rw [hF.out]; exact HFL.out, by rw [hF.out]; exact own_lowerB HO3.out HS1.out, HB1.out.via HBr.out⟩
end Cib

end
/-! CodS -/
section
set_option linter.unusedVariables false
set_option linter.unusedSimpArgs false
set_option maxRecDepth 40000
namespace Cib
open Go Go.RowKit Go.Proofs
/-- The rows' bytes. -/
def bss (L : List RowB) : List (List UInt8) := L.map (·.bs)
theorem bss_get {L : List RowB} {j : Nat} (h : j < L.length) : (bss L).getD j [] = L[j].bs := by simp [bss, List.getD, h]
theorem RowsAt.lens {w : World} {B : Nat} {L : List RowB} (h : RowsAt w B L) : ∀ r ∈ L, r.bs.length = r.n := fun r hr => (h r hr).len
set_option maxHeartbeats 1600000 in
theorem cdSum {w : World} {g gf k m c : Nat} {A : Option Addr} (h : Cdr w g gf k m A c) (L : List RowB) (B : Nat) (A2 : Option Addr) (n c2 : Nat) (hr : Rd w B A2 (L.map RowB.v)) (hR : RowsAt w B L) (hB : B ≤ w.heap.size) (hn : L.length = n) (hn1 : 1 ≤ n) (hn2 : n ≤ 1000)
    (hm : ∀ r ∈ L, r.n ≤ 1000000000) (Af : Option Addr) (cf : Nat) (f : List UInt8) (hf : Rd w B Af (f.map bv)) (hfl : f.length = n) :
    Calls Try.prog 34 #[.pointer (some ⟨g, 0, none⟩), .slice A2 n c2, .func (.func 35) #[.slice Af n cf] #[]] w (NewB (Cod.sumTo f (bss L) (Cod.len0 (bss L)) n) w) := by
  have h0l : 0 < L.length := by omega
  obtain ⟨ad, rfl, hab, hcell0⟩ := hr.row h0l
  rw [addr_add_zero] at hcell0
  have hl0 : Cod.len0 (bss L) = L[0].n := by
    rw [Cod.len0_eq (by simpa [bss] using h0l)]
    have := hR.lens _ (List.getElem_mem h0l)
    simpa [bss] using this
  obtain ⟨W, hW⟩ : ∃ W, Hid (Cod.len0 (bss L) = W) := ⟨_, rfl⟩
  rw [hW.out] at hl0 ⊢
  have hWm : W ≤ 1000000000 := by rw [hl0]; exact hm _ (List.getElem_mem h0l)
  rw [← hl0] at hcell0
  have hmk := makeB W (by omega)
  have HR := Lib.hid hr
  have HRR := Lib.hid hR
  have HM := Lib.hid hm
  have HN := Lib.hid hn
  have HF := Lib.hid hf
  have HFL := Lib.hid hfl
  have HC := Lib.hid h
  generalize L[0].A = A0 at hcell0
  generalize L[0].c = c0 at hcell0
  clear h hr hR hm hn hf hfl hl0 hab h0l
  go_enter Try.func34, Try.ntmps34
  go_wp2
  go_loopw [7, 8, 9, 17] (fun l _ _ i wr => ∃ (q : Nat) (A' : Option Addr) (c' : Nat), i = .int .i64 q ∧ q ≤ n ∧ l = .slice A' W c' ∧ Hid (wr.ownsRow w.heap.size 5 1 (.slice A' W c') W ((Cod.sumTo f (bss L) W q).map bv)) ∧ Hid (Below w.heap.size w wr)) (fun _ _ _ i _ => n - (intOf i).toNat)
  case atStart =>
    refine ⟨0, some ⟨w.heap.size, 0, none⟩, W, rfl, Nat.zero_le _, rfl, ?_, (Below.refl _ _).alloc (Nat.le_refl _) _⟩
    show World.ownsRow _ _ _ _ _ _ _
    rw [Cod.sumTo, List.map_replicate]
    exact own_made w w.heap.size 5 (.int .u8 0) W W (Nat.le_refl _) (Nat.le_refl _) (by unfold maxLen; omega)
  case round =>
    obtain ⟨q, A', c', rfl, hq, rfl, HO, HBr⟩ := hrel
    by_cases hlt : q < n
    · have hql : q < L.length := by rw [HN.out]; exact hlt
      have hC := HC.out.below HBr.out
      have hz := HBr.out.size
      obtain ⟨ad', e0, hab, hcell⟩ := (HR.out.below (HBr.out.mono hB)).row hql
      injection e0 with e0
      subst e0
      have hRq := (HRR.out.get hql).below (HBr.out.mono hB)
      have hmq := HM.out _ (List.getElem_mem hql)
      have hsb : Hid ((bss L).getD q [] = L[q].bs) := (show _ = _ from bss_get hql)
      have hrd := hRq.rd
      have hlen := hRq.len
      have hcap := hRq.cap
      clear hRq
      generalize L[q] = r at *
      obtain ⟨rA, rn, rc, bs⟩ := r
      simp only at hcell hmq hsb hrd hlen hcap
      obtain ⟨x, hx⟩ : ∃ x, Hid ((f.getD q 0).toNat = x) := ⟨_, rfl⟩
      have hx8 : x < 256 := by rw [← hx.out]; exact (f.getD q 0).toNat_lt
      have HOF := Lib.hid (cdOf B Af n cf f q wr.drew ((HF.out.below (HBr.out.mono hB)).drewN 1) HFL.out hlt (by omega))
      rw [hx.out] at HOF
      have HFO := Lib.hid (fldFoldF gf x hx8 rA rc bs A' c' (Cod.sumTo f (bss L) W q) wr.drew hC.full B wr.heap.size hrd (Rd.of_own HO.out) hlen (Cod.sumTo_length _ _ _ _) (Nat.le_trans hB hz) (Nat.le_refl _) hmq hWm hcap)
      have hc2 : wr.drew.cell? ⟨g, 2, none⟩ = some (.pointer (some ⟨gf, 0, none⟩)) := hC.c2
      have HN2 : Hid (foB x bs (Cod.sumTo f (bss L) W q) = Cod.sumTo f (bss L) W (q + 1)) := by
        show _ = _
        rw [Cod.sumTo, hsb.out, hx.out]
      rw [HN2.out] at HFO
      clear hC HO hrd hlen hcap hsb hx HN2
      go_wp2
      go_region_with (first | (go_at_call 35; refine HOF.out.mono ?_; rintro e w' ⟨rfl, rfl⟩) | (go_at_call 52; refine HFO.out.mono ?_; rintro e w' ⟨A1, n1, c1, rfl, hn1, ho1, hb1⟩))
      all_goals
        go_wp2
        obtain rfl : n1 = W := by rw [← hn1, Cod.sumTo_length]
        go_roundw
        case rel => exact ⟨q + 1, A1, c1, by go_num, hlt, rfl, own_lowerB ho1 hz, (below_drewN HBr.out 1).trans (hb1.mono hz)⟩
        case measure => simp [intOf]; omega
    · obtain rfl : q = n := by omega
      go_wp2
      go_ret
      exact ⟨A', W, c', rfl, Cod.sumTo_length _ _ _ _, HO.out, HBr.out⟩
end Cib

end
/-! CodE -/
section
set_option linter.unusedVariables false
set_option linter.unusedSimpArgs false
set_option maxRecDepth 40000
namespace Cib
open Go Go.RowKit Go.Proofs
theorem cdEncodeNo {w : World} {g gf k m c : Nat} {A : Option Addr} (h : Cdr w g gf k m A c) (L : List RowB) (B : Nat) (A2 : Option Addr) (n c2 : Nat) (hr : Rd w B A2 (L.map RowB.v)) (hl : ∀ r ∈ L, r.bs.length = r.n) (hn : L.length = n) (hn2 : n ≤ maxLen) (hno : ¬ (n = k ∧ Cod.evn (bss L) = true)) :
    Calls Try.prog 19 #[.pointer (some ⟨g, 0, none⟩), .slice A2 n c2] w fun e w' => e = .returned (.tuple #[.slice none 0 0, .int .i64 2]) ∧ w' = w := by
  have HN := Lib.hid (cdNone h)
  have HE := Lib.hid (cdRight h L B A2 n c2 hr hl hn hn2)
  rw [show (decide (n = k) && Cod.evn (L.map (·.bs))) = false from by
    rw [Bool.and_eq_false_iff]
    by_cases hk : n = k
    · right
      cases hb : Cod.evn (L.map (·.bs)) with
      | false => rfl
      | true => exact absurd ⟨hk, hb⟩ hno
    · left
      simp [hk]] at HE
  clear h hr hl hn hno
  go_enter Try.func19, Try.ntmps19
  go_wp2_with (first | (go_at_call 18; refine HN.out.mono ?_; rintro e w' ⟨rfl, rfl⟩) | (go_at_call 32; refine HE.out.mono ?_; rintro e w' ⟨rfl, rfl⟩))
  first | go_ret2 | go_ret
  exact ⟨rfl, rfl⟩
/-- The parity rows. -/
def Cod.pars (k : Nat) (D : List (List UInt8)) (p : Nat) : List (List UInt8) := (List.range p).map fun i => Cod.shard k D (k + i)
theorem Cod.pars_next (k : Nat) (D : List (List UInt8)) (p : Nat) : Cod.pars k D (p + 1) = Cod.pars k D p ++ [Cod.shard k D (k + p)] := by simp [Cod.pars, List.range_succ]
theorem Cod.pars_length (k : Nat) (D : List (List UInt8)) (p : Nat) : (Cod.pars k D p).length = p := by simp [Cod.pars]
/-- Encode under way. -/
structure EncI (w : World) (k : Nat) (D : List (List UInt8)) (p : Nat) (A : Option Addr) (c : Nat) (L : List RowB) (wr : World) : Prop where
  bs : L.map (·.bs) = Cod.pars k D p
  own : wr.ownsRow w.heap.size 22 1 (.slice A p c) p (L.map RowB.v)
  rows : RowsNew wr w.heap.size L
  below : Below w.heap.size w wr
theorem EncI.len {w wr : World} {k p c : Nat} {D : List (List UInt8)} {A : Option Addr} {L : List RowB} (h : EncI w k D p A c L wr) : L.length = p := by
  have := congrArg List.length h.bs
  rw [Cod.pars_length, List.length_map] at this
  exact this
theorem EncI.push {w wr w2 w3 : World} {k p c : Nat} {D : List (List UInt8)} {A A3 : Option Addr} {c3 : Nat} {L : List RowB} (h : EncI w k D p A c L wr) {r : RowB} (hr : r.bs = Cod.shard k D (k + p)) (hb : Below wr.heap.size wr w2)
    (ho : w2.ownsRow wr.heap.size 5 1 (.slice r.A r.n r.c) r.n (r.bs.map bv))
    (ho3 : w3.ownsRow w.heap.size 22 1 (.slice A3 (p + 1) c3) (p + 1) (L.map RowB.v ++ [r.v])) (hg : (w2.alloc (.cells #[r.v] 22)).grownBy w3 (Value.slice A p c).ownBlock) (hb3 : Below w.heap.size (w2.alloc (.cells #[r.v] 22)) w3) :
    EncI w k D (p + 1) A3 c3 (L ++ [r]) w3 where
  bs := by rw [List.map_append, h.bs, Cod.pars_next, ← hr]; rfl
  own := by rw [List.map_append]; exact ho3
  rows := ((h.rows.push hb h.below.size ho).below ((Below.refl _ _).alloc (Nat.le_refl _) _)).grown hg ((own_via h.own hb).alloc _) rowNe
  below := ((h.below.via hb).alloc (h.below.via hb).size _).trans hb3
set_option maxHeartbeats 1600000 in
theorem cdEncode {w : World} {g gf k m c : Nat} {A : Option Addr} (h : Cdr w g gf k m A c) (L : List RowB) (B : Nat) (A2 : Option Addr) (c2 : Nat) (hr : Rd w B A2 (L.map RowB.v)) (hR : RowsAt w B L) (hB : B ≤ w.heap.size) (hn : L.length = k) (hev : Cod.evn (bss L) = true) (hm : ∀ r ∈ L, r.n ≤ 1000000000) :
    Calls Try.prog 19 #[.pointer (some ⟨g, 0, none⟩), .slice A2 k c2] w (NewR (Cod.pars k (bss L) m) 0 w) := by
  have HN := Lib.hid (cdNone h)
  have hk1 := h.hk
  have hkm := h.hs
  have HE := Lib.hid (cdRight h L B A2 k c2 hr hR.lens hn (by unfold maxLen; omega))
  rw [show (decide (k = k) && Cod.evn (L.map (·.bs))) = true from by rw [decide_eq_true rfl]; exact hev] at HE
  have HC := Lib.hid h
  have HR := Lib.hid hr
  have HRR := Lib.hid hR
  have HM := Lib.hid hm
  have HLN := Lib.hid hn
  have hmk : ∀ W : World, (Instr.makeSlice 28 (.int .i64 0) (.int .i64 (m : Int))).run Try.prog W = .ok (.slice (some ⟨W.heap.size, 0, none⟩) 0 m) (W.alloc (.cells (madeCells #[.slice none 0 0] m) 22)) := makeR 0 m (Nat.zero_le _) (by omega)
  have h1 := h.c1
  clear h hr hR hm hn hev
  go_enter Try.func19, Try.ntmps19
  go_wp2_with fail
  refine HN.out.mono ?_
  rintro e w' ⟨rfl, rfl⟩
  go_wp2_with fail
  refine HE.out.mono ?_
  rintro e w1 ⟨rfl, rfl⟩
  have hal : Below w1.heap.size w1 (w1.alloc (.cells (madeCells #[.slice none 0 0] m) 22)) := (Below.refl _ _).alloc (Nat.le_refl _) _
  have h1a := (HC.out.below hal).c1
  clear hal
  go_wp2
  go_loopw [6, 7, 8, 28] (fun l _ _ i wr => ∃ (p : Nat) (A' : Option Addr) (c' : Nat) (M : List RowB), i = .int .i64 p ∧ p ≤ m ∧ l = .slice A' p c' ∧ Hid (EncI w1 k (bss L) p A' c' M wr)) (fun _ _ _ i _ => m - (intOf i).toNat)
  case atStart =>
    refine ⟨0, some ⟨w1.heap.size, 0, none⟩, m, [], rfl, Nat.zero_le _, rfl, ⟨rfl, ?_, RowsNew.nil, (Below.refl _ _).alloc (Nat.le_refl _) _⟩⟩
    have := own_made w1 w1.heap.size 22 (.slice none 0 0) 0 m (Nat.le_refl _) (Nat.zero_le _) (by unfold maxLen; omega)
    simpa using this
  case round =>
    clear h1a HN HE hmk h1
    obtain ⟨p, A', c', M, rfl, hp, rfl, HI⟩ := hrel
    by_cases hlt : p < m
    · have hC := HC.out.below HI.out.below
      have hc0 := hC.c0
      have HRW := Lib.hid (cdRow hC (k + p) (by omega))
      simp only [Int.natCast_add] at HRW
      have hz := HI.out.below.size
      have HCC := Lib.hid hC
      clear hC
      go_wp2_with fail
      refine HRW.out.mono ?_
      rintro e w2 ⟨Af, nf, cf, rfl, hnf, hof, hbf⟩
      rw [Cod.facRow_length] at hnf
      have HBW := Lib.hid (HI.out.below.via hbf)
      have HSM := Lib.hid (cdSum (HCC.out.below hbf) L w2.heap.size A2 k c2 ((HR.out.below (HBW.out.mono hB)).more (Nat.le_trans hB HBW.out.size)) (fun r hr => ((HRR.out r hr).below (HBW.out.mono hB)).more (Nat.le_trans hB HBW.out.size)) (Nat.le_refl _) HLN.out hk1 (by omega) HM.out Af cf (Cod.facRow k (k + p)) (Rd.of_own hof) (by rw [Cod.facRow_length]))
      rw [Cod.sum_shard (k + p) (by simpa [bss] using HLN.out)] at HSM
      subst hnf
      have HBF := Lib.hid hbf
      clear hbf hof HRW HCC
      go_wp2_with fail
      refine HSM.out.mono ?_
      rintro e w3 ⟨A3, n3, c3, rfl, hn3, ho3, hb3⟩
      have HB23 := Lib.hid (HBF.out.via hb3)
      have HO3 := Lib.hid (own_lower1 ho3 HBF.out.size)
      have HZ3 := HB23.out.size
      have HP := Lib.hid (fun A4 c4 w4 ho4 hg4 hb4 => HI.out.push (r := ⟨A3, n3, c3, Cod.shard k (bss L) (k + p)⟩) (w3 := w4) (A3 := A4) (c3 := c4) rfl HB23.out HO3.out ho4 hg4 hb4)
      have HOO := Lib.hid (own_via HI.out.own HB23.out)
      have HML := Lib.hid HI.out.len
      clear HI ho3 hb3 HSM
      go_wp2_with (at_builtin; refine appR _ rfl (.tmp 40) (.tmp 46) rfl w1.heap.size A' p c' (M.map RowB.v) rfl (HOO.out.alloc _) _ (some ⟨w3.heap.size, 0, none⟩) 1 1 [.slice A3 n3 c3] rfl rfl (Rd.new w3 _ _ _ rfl) (one_rows (L := [⟨A3, n3, c3, []⟩])) (by omega) (by simp; omega) ?_; intro A4 c4 w4 ho4 hg4 hb4)
      go_roundw
      case rel => exact ⟨p + 1, A4, c4, _, by go_num, hlt, rfl, HP.out A4 c4 w4 ho4 hg4 hb4⟩
      case measure => simp [intOf]; omega
    · obtain rfl : p = m := by omega
      have hI := HI.out
      have hl := hI.len
      go_wp2
      first | go_ret2 | go_ret
      exact ⟨A', p, c', M, rfl, hI.bs, hl, hI.own, hI.rows, hI.below⟩
end Cib

end
/-! CodA -/
section
set_option linter.unusedVariables false
set_option linter.unusedSimpArgs false
set_option maxRecDepth 40000
namespace Cib
open Go Go.RowKit Go.Proofs
theorem cdAllNo {w : World} {g gf k m c : Nat} {A : Option Addr} (h : Cdr w g gf k m A c) (L : List RowB) (B : Nat) (A2 : Option Addr) (n c2 : Nat) (hr : Rd w B A2 (L.map RowB.v)) (hl : ∀ r ∈ L, r.bs.length = r.n) (hn : L.length = n) (hn2 : n ≤ maxLen) (hno : ¬ (n = k ∧ Cod.evn (bss L) = true)) :
    Calls Try.prog 9 #[.pointer (some ⟨g, 0, none⟩), .slice A2 n c2] w fun e w' => e = .returned (.tuple #[.slice none 0 0, .int .i64 2]) ∧ w' = w := by
  have HE := Lib.hid (cdEncodeNo h L B A2 n c2 hr hl hn hn2 hno)
  clear h hr hl hn hno
  go_enter Try.func9, Try.ntmps9
  go_wp2_with (go_at_call 19; refine HE.out.mono ?_; rintro e w' ⟨rfl, rfl⟩)
  first | go_ret2 | go_ret
  exact ⟨rfl, rfl⟩
/-- All shards. -/
def Cod.shards (k : Nat) (D : List (List UInt8)) (n : Nat) : List (List UInt8) := (List.range n).map fun i => Cod.shard k D i
theorem Cod.shards_length (k : Nat) (D : List (List UInt8)) (n : Nat) : (Cod.shards k D n).length = n := by simp [Cod.shards]
theorem Cod.shards_data {k m : Nat} {D : List (List UInt8)} (hk : D.length = k) (he : Cod.evn D = true) : D ++ Cod.pars k D m = Cod.shards k D (k + m) := by
  apply List.ext_getElem
  · simp [Cod.pars, Cod.shards, hk]
  · intro i h1 h2
    have hi : i < k + m := by simpa [Cod.shards] using h2
    simp only [Cod.shards, List.getElem_map, List.getElem_range]
    by_cases hlt : i < k
    · rw [List.getElem_append_left (by omega), Cod.shard_data hk hlt he]
    · rw [List.getElem_append_right (by omega)]
      simp only [Cod.pars, List.getElem_map, List.getElem_range]
      rw [show k + (i - D.length) = i from by omega]
/-- All under way: the data rows copied so far, behind the parity. -/
structure AllI (w : World) (D : List (List UInt8)) (p : Nat) (A : Option Addr) (c : Nat) (L : List RowB) (wr : World) : Prop where
  bs : L.map (·.bs) = D.take p
  own : wr.ownsRow w.heap.size 22 1 (.slice A p c) p (L.map RowB.v)
  rows : RowsNew wr w.heap.size L
  below : Below w.heap.size w wr
theorem AllI.push {w wr w2 w3 : World} {p c : Nat} {D : List (List UInt8)} {A A3 : Option Addr} {c3 : Nat} {L : List RowB} (h : AllI w D p A c L wr) {r : RowB} (hp : p < D.length) (hr : r.bs = D[p]) (hb : Below wr.heap.size wr w2)
    (ho : w2.ownsRow wr.heap.size 5 1 (.slice r.A r.n r.c) r.n (r.bs.map bv))
    (ho3 : w3.ownsRow w.heap.size 22 1 (.slice A3 (p + 1) c3) (p + 1) (L.map RowB.v ++ [r.v])) (hg : (w2.alloc (.cells #[r.v] 22)).grownBy w3 (Value.slice A p c).ownBlock) (hb3 : Below w.heap.size (w2.alloc (.cells #[r.v] 22)) w3) :
    AllI w D (p + 1) A3 c3 (L ++ [r]) w3 where
  bs := by rw [List.map_append, h.bs, List.take_succ_eq_append_getElem hp, ← hr]; rfl
  own := by rw [List.map_append]; exact ho3
  rows := ((h.rows.push hb h.below.size ho).below ((Below.refl _ _).alloc (Nat.le_refl _) _)).grown hg ((own_via h.own hb).alloc _) rowNe
  below := ((h.below.via hb).alloc (h.below.via hb).size _).trans hb3
theorem AllI.len {w wr : World} {p c : Nat} {D : List (List UInt8)} {A : Option Addr} {L : List RowB} (h : AllI w D p A c L wr) (hp : p ≤ D.length) : L.length = p := by
  have := congrArg List.length h.bs
  rw [List.length_map, List.length_take] at this
  omega
set_option maxHeartbeats 1600000 in
theorem cdAllR {w : World} {g gf k m c : Nat} {A : Option Addr} (h : Cdr w g gf k m A c) (L : List RowB) (B : Nat) (A2 : Option Addr) (c2 : Nat) (hr : Rd w B A2 (L.map RowB.v)) (hR : RowsAt w B L) (hB : B ≤ w.heap.size) (hn : L.length = k) (hev : Cod.evn (bss L) = true) (hm : ∀ r ∈ L, r.n ≤ 1000000000) :
    Calls Try.prog 9 #[.pointer (some ⟨g, 0, none⟩), .slice A2 k c2] w (NewR (Cod.shards k (bss L) (k + m)) 0 w) := by
  have HE := Lib.hid (cdEncode h L B A2 c2 hr hR hB hn hev hm)
  have HSH : Hid (bss L ++ Cod.pars k (bss L) m = Cod.shards k (bss L) (k + m)) := (show _ = _ from Cod.shards_data (by simpa [bss] using hn) hev)
  have HSL : Hid ((bss L).length = k) := (show _ = _ by simpa [bss] using hn)
  have hk1 := h.hk
  have hkm := h.hs
  have HC := Lib.hid h
  have HR := Lib.hid hr
  have HRR := Lib.hid hR
  have HM := Lib.hid hm
  have HLN := Lib.hid hn
  have hmk : ∀ W : World, (Instr.makeSlice 28 (.int .i64 0) (.int .i64 ((k : Int) + m))).run Try.prog W = .ok (.slice (some ⟨W.heap.size, 0, none⟩) 0 (k + m)) (W.alloc (.cells (madeCells #[.slice none 0 0] (k + m)) 22)) := fun W => by
    have := makeR 0 (k + m) (Nat.zero_le _) (by omega) W
    rw [Int.natCast_add] at this
    exact this
  clear h hr hR hm hn hev
  go_enter Try.func9, Try.ntmps9
  go_wp2_with fail
  refine HE.out.mono ?_
  rintro e w1 ⟨A1, n1, c1, P, rfl, hP, hPn, hPo, hPr, hb1⟩
  have HAL := Lib.hid (cdAll (HC.out.below hb1))
  have HB1 := Lib.hid hb1
  have hz1 := hb1.size
  obtain rfl : n1 = m := by
    have := congrArg List.length hP
    rw [List.length_map, Cod.pars_length] at this
    omega
  have HP := Lib.hid hP
  have HPN := Lib.hid hPn
  have HPO := Lib.hid hPo
  have HPR := Lib.hid hPr
  clear hb1 hP hPn hPo hPr HE
  go_wp2_with (go_at_call 20; refine HAL.out.mono ?_; rintro e w' ⟨rfl, rfl⟩)
  go_loopw [8, 10, 27] (fun l _ i wr => ∃ (p : Nat) (A' : Option Addr) (c' : Nat) (M : List RowB), i = .int .i64 p ∧ p ≤ k ∧ l = .slice A' p c' ∧ Hid (AllI w1 (bss L) p A' c' M wr)) (fun _ _ i _ => k - (intOf i).toNat)
  case atStart =>
    refine ⟨0, some ⟨w1.heap.size, 0, none⟩, k + n1, [], rfl, Nat.zero_le _, rfl, ⟨rfl, ?_, RowsNew.nil, (below_drewN (Below.refl w1.heap.size w1) 1).alloc (Nat.le_refl _) _⟩⟩
    have := own_made w1.drew w1.heap.size 22 (.slice none 0 0) 0 (k + n1) (Nat.le_refl _) (Nat.zero_le _) (by unfold maxLen; omega)
    exact this
  case round =>
    clear HAL hmk
    obtain ⟨p, A', c', M, rfl, hp, rfl, HI⟩ := hrel
    have HBB := Lib.hid (HB1.out.via HI.out.below)
    have HML := Lib.hid (HI.out.len (by rw [HSL.out]; exact hp))
    have hz := HI.out.below.size
    by_cases hlt : p < k
    · have hpl : p < L.length := by rw [HLN.out]; exact hlt
      obtain ⟨ad, rfl, hab, hcell⟩ := (HR.out.below (HBB.out.mono hB)).row hpl
      have hRq := (HRR.out.get hpl).below (HBB.out.mono hB)
      have hmq := HM.out _ (List.getElem_mem hpl)
      have hps : p < (bss L).length := by rw [HSL.out]; exact hlt
      have hbs : Hid (L[p].bs = (bss L)[p]) := (show _ = _ by simp [bss])
      have hrd := hRq.rd
      have hlen := hRq.len
      clear hRq
      generalize L[p] = r at *
      obtain ⟨rA, rn, rc, bs⟩ := r
      simp only at hcell hmq hbs hrd hlen
      have HPU := Lib.hid (fun A3 n3 c3 w2 hb ho A4 c4 w4 ho4 hg4 hb4 => HI.out.push (r := ⟨A3, n3, c3, bs⟩) (w2 := w2) (w3 := w4) (A3 := A4) (c3 := c4) hps hbs.out hb ho ho4 hg4 hb4)
      have HOO := Lib.hid HI.out.own
      have HLE := Lib.hid hlen
      have HRD := Lib.hid hrd
      clear HI hrd hlen hbs hps
      go_wp2_with (first | (at_builtin; refine appB _ rfl (.const (.slice none 0 0)) (.tmp 32) rfl wr.heap.size none 0 0 [] rfl (World.ownsRow_nil _ _ _ _) B rA rn rc (bs.map bv) rfl (by rw [List.length_map]; exact HLE.out) HRD.out one_bytes (by omega) (Nat.le_refl _) ?_; intro A3 c3 w2 ho2 hg2 hb2; rw [Nat.zero_add, List.nil_append] at ho2; rw [Nat.zero_add]; have HO2 := Lib.hid ho2; have HB2 := Lib.hid hb2; have hz2 := hb2.size; clear ho2 hg2 hb2) | (at_builtin; refine appR _ rfl (.tmp 31) (.tmp 34) rfl w1.heap.size A' p c' (M.map RowB.v) rfl ((own_via HOO.out HB2.out).alloc _) _ (some ⟨w2.heap.size, 0, none⟩) 1 1 [.slice A3 rn c3] rfl rfl (Rd.new w2 _ _ _ rfl) (one_rows (L := [⟨A3, rn, c3, []⟩])) (by omega) (by simp; omega) ?_; intro A4 c4 w4 ho4 hg4 hb4))
      go_roundw
      case rel => exact ⟨p + 1, A4, c4, _, by go_num, hlt, rfl, HPU.out A3 rn c3 w2 HB2.out HO2.out A4 c4 w4 ho4 hg4 hb4⟩
      case measure => simp [intOf]; omega
    · obtain rfl : p = k := by omega
      have HBS : Hid (M.map (·.bs) = bss L) := (show _ = _ by rw [HI.out.bs]; exact List.take_of_length_le (by rw [HSL.out]; exact Nat.le_refl _))
      have HOO := Lib.hid (own_lower1 HI.out.own hz1)
      have HRP := Lib.hid ((Rd.of_own HPO.out).below HI.out.below)
      have HRN := Lib.hid ((HPR.out.below HI.out.below).prepend HI.out.rows hz1 HPR.out.lt)
      clear HI
      go_wp2_with (at_builtin; refine appR _ rfl (.tmp 37) (.tmp 38) rfl w.heap.size A' p c' (M.map RowB.v) rfl HOO.out _ A1 n1 c1 (P.map RowB.v) rfl (by rw [List.length_map]; exact HPN.out) HRP.out one_rows (by omega) (Nat.le_trans hz1 hz) ?_; intro A4 c4 w4 ho4 hg4 hb4)
      first | go_ret2 | go_ret
      refine ⟨A4, p + n1, c4, M ++ P, rfl, ?_, ?_, ?_, ?_, ?_⟩
      · rw [List.map_append, HBS.out, HP.out, HSH.out]
      · rw [List.length_append, HML.out, HPN.out]
      · rw [List.map_append]; exact ho4
      · exact HRN.out.grown hg4 HOO.out rowNe
      · exact HBB.out.trans hb4
end Cib

end
/-! CodJ -/
section
set_option linter.unusedVariables false
set_option linter.unusedSimpArgs false
set_option maxRecDepth 40000
namespace Cib
open Go Go.RowKit Go.Proofs
/-- A text's piece, filled up with noughts. -/
def Cod.pad (t : List UInt8) (W : Nat) : List UInt8 := t ++ List.replicate (W - t.length) 0
theorem Cod.pad_length (t : List UInt8) (W : Nat) (h : t.length ≤ W) : (Cod.pad t W).length = W := by simp [Cod.pad]; omega
def Cod.cutRow (bs : List UInt8) (W i : Nat) : List UInt8 := Cod.pad ((bs.drop (i * W)).take W) W
theorem Cod.cutRow_length (bs : List UInt8) (W i : Nat) : (Cod.cutRow bs W i).length = W := Cod.pad_length _ _ (by rw [List.length_take]; omega)
def Cod.splitD (bs : List UInt8) (W n : Nat) : List (List UInt8) := (List.range n).map (Cod.cutRow bs W)
theorem Cod.splitD_next (bs : List UInt8) (W n : Nat) : Cod.splitD bs W (n + 1) = Cod.splitD bs W n ++ [Cod.cutRow bs W n] := by simp [Cod.splitD, List.range_succ]
theorem Cod.splitD_length (bs : List UInt8) (W n : Nat) : (Cod.splitD bs W n).length = n := by simp [Cod.splitD]
theorem Cod.drop_next (bs : List UInt8) (W i : Nat) : (bs.drop (i * W)).drop (min (bs.drop (i * W)).length W) = bs.drop ((i + 1) * W) := by
  have e : (i + 1) * W = i * W + W := Nat.succ_mul i W
  rw [e, ← List.drop_drop]
  by_cases h : (bs.drop (i * W)).length ≤ W
  · rw [Nat.min_eq_left h, List.drop_length, List.drop_eq_nil_of_le h]
  · rw [Nat.min_eq_right (by omega)]
theorem RowsNew.setCell {w : World} {base : Nat} {L : List RowB} (h : RowsNew w base L) {p : Addr} {t : TypeId} (hp : Ty w p.block t) (ht : t ≠ 5) (u : Value) : RowsNew (w.setCell p u) base L :=
  ⟨fun r hr => ownsRow_setCell_other (h.own r hr) (fun he => by
    rcases (h.own r hr).2 with ⟨h0, _⟩ | ⟨g, cap, cur, hv, _, h2, _⟩
    · rw [h0] at he
      simp [Value.ownBlock] at he
    · rw [hv] at he
      simp [Value.ownBlock] at he
      subst he
      exact ht (hp.one (w := w) ⟨_, _, h2⟩)) u, h.apart⟩
/-- Bytes put into a fresh row of noughts that has room: what the whole row holds. -/
theorem run_pad (W : World) (g n : Nat) (hg : Blk W g 5 (madeCells #[.int .u8 0] n)) (B : Nat) (A : Option Addr) (t : List UInt8) (m c : Nat) (hr : Rd W B A (t.map bv)) (hm : t.length = m) (hmn : m ≤ n) (hn : n ≤ maxLen) (base : Nat) (hb : base ≤ g) (ty : TypeId) :
    ∃ W', (Builtin.append_ #[22, 22] ty #[.slice (some ⟨g, 0, none⟩) 0 n, .slice A m c]).run Try.prog W = .ok (.slice (some ⟨g, 0, none⟩) m n) W' ∧
      W'.ownsRow base 5 1 (.slice (some ⟨g, 0, none⟩) n n) n ((Cod.pad t n).map bv) ∧ Below g W W' := by
  obtain ⟨i0, hi, hz0, hz1, hz2⟩ := info_parts infoByte
  have hz : madeCells #[Value.int .u8 0] n = ((List.replicate n (0 : UInt8)).map bv).toArray := by
    apply Array.ext
    · simp [size_madeCells]
    · intro j h1 h2
      simp [madeCells, bv, Nat.mod_one]
  rcases A with _ | ad
  · have ht : t = [] := by
      rcases t with _ | ⟨x, xs⟩
      · rfl
      · obtain ⟨ad, h, _⟩ := hr (by simp)
        cases h
    subst ht
    have hm0 : m = 0 := by simpa using hm.symm
    subst hm0
    have hown : W.ownsRow base 5 1 (.slice (some ⟨g, 0, none⟩) 0 n) 0 [] := ⟨rfl, .inr ⟨g, n, _, rfl, hb, hg, Nat.zero_le _, hn, by simp [size_madeCells], by simp⟩⟩
    refine ⟨W, run_app_nil W base 22 ty 5 i0 Try.underlying22 hi _ 0 [] hown c, ⟨by simp [Cod.pad], .inr ⟨g, n, _, rfl, hb, hg, Nat.le_refl _, hn, by simp [size_madeCells], ?_⟩⟩, Below.refl _ _⟩
    rw [hz]
    simp [Cod.pad]
  · have hcells : ∀ j u, (t.map bv)[j]? = some u → W.cell? (ad.add j) = some u := by
      intro j u hu
      obtain ⟨hj, he⟩ := List.getElem?_eq_some_iff.1 hu
      obtain ⟨ad', h, _, hc⟩ := hr (by intro e; rw [e] at hj; simp at hj)
      injection h with h
      subst h
      rw [hc j hj, he]
    have hrun := run_append_room (P := Try.prog) W 22 ty 5 i0 Try.underlying22 hi g 0 n _ hg ad m c (t.map bv) (by rw [hz1]; simpa using hm) hcells one_bytes (by omega) (by rw [hz1, size_madeCells]; simpa [hm] using hmn)
    rw [Nat.zero_add] at hrun
    refine ⟨_, hrun, ⟨by simp [Cod.pad]; omega, .inr ⟨g, n, _, rfl, hb, setRow_heap W g _ _ _ (0, 0) hg, Nat.le_refl _, hn, ?_, ?_⟩⟩, below_setRow (Below.refl _ _) (Nat.le_refl _) _⟩
    · rw [hz, hz1]
      simp [hm]
      omega
    · rw [hz, hz1]
      simp only [Nat.zero_mul, List.take_zero, List.nil_append, Nat.zero_add, Cod.pad, List.map_append, List.map_replicate]
      rw [List.take_of_length_le (by simp; omega)]
      simp
theorem wp_append {w w' : World} {o : Oper} {a : Act} {K : Act → World → Prop} {Q : Exit → Act → World → Prop} (s x : Operand) (t : TypeId)
    (ho : o.op = .call { callee := .builtin .append, args := #[s, x], argTypes := #[t, t] }) (v u r : Value) (hs : a.eval s = v) (hx : a.eval x = u) (hrun : (Builtin.append_ #[t, t] o.type #[v, u]).run Try.prog w = .ok r w') (h : K (a.put o.dst r) w') :
    o.wp Try.prog a w K Q := by
  unfold Oper.wp execOp
  simp only [ho, resolve, invoke, builtin, Sem.run_bind, Sem.run_pure, Result.andThen_ok, List.map_toArray, List.map_cons, List.map_nil, hs, hx, hrun]
  exact h
/-- Split under way. -/
structure SplI (w : World) (bs : List UInt8) (W k i : Nat) (L : List RowB) (wr : World) : Prop where
  bs : L.map (·.bs) = Cod.splitD bs W i
  own : wr.ownsRow w.heap.size 22 1 (.slice (some ⟨w.heap.size, 0, none⟩) k k) k (L.map RowB.v ++ List.replicate (k - i) (.slice none 0 0))
  rows : RowsNew wr w.heap.size L
  below : Below w.heap.size w wr
theorem SplI.len {w wr : World} {bs : List UInt8} {W k i : Nat} {L : List RowB} (h : SplI w bs W k i L wr) : L.length = i := by
  have := congrArg List.length h.bs
  rw [Cod.splitD_length, List.length_map] at this
  exact this
theorem SplI.cells {w wr w2 : World} {bs : List UInt8} {W k i : Nat} {L : List RowB} (h : SplI w bs W k i L wr) (hi : i < k) (hb : Below wr.heap.size wr w2) :
    (∃ v, w2.cell? ⟨w.heap.size, i, none⟩ = some v) ∧ w2.frozen? ⟨w.heap.size, i, none⟩ = false := by
  have ho := own_via h.own hb
  refine ⟨?_, ho.frozenAt i⟩
  have hl : (L.map RowB.v ++ List.replicate (k - i) (Value.slice none 0 0)).length = k := by
    have := h.len
    simp
    omega
  exact ⟨_, (ho.cellAt i (by omega)).trans (List.getElem?_eq_getElem (by rw [hl]; exact hi))⟩
theorem SplI.push {w wr w2 : World} {bs : List UInt8} {W k i : Nat} {L : List RowB} (h : SplI w bs W k i L wr) (hi : i < k) (hb : Below wr.heap.size wr w2) {r : RowB} (hr : r.bs = Cod.cutRow bs W i)
    (ho : w2.ownsRow wr.heap.size 5 1 (.slice r.A r.n r.c) r.n (r.bs.map bv)) : SplI w bs W k (i + 1) (L ++ [r]) (w2.setCell ⟨w.heap.size, i, none⟩ r.v) where
  bs := by rw [List.map_append, h.bs, Cod.splitD_next, ← hr]; rfl
  own := by
    have h1 := (World.ownsRow.stored (own_via h.own hb) i r.v).1
    have e : (L.map RowB.v ++ List.replicate (k - i) (Value.slice none 0 0)).set i r.v = (L ++ [r]).map RowB.v ++ List.replicate (k - (i + 1)) (Value.slice none 0 0) := by
      have hl := h.len
      rw [List.set_append_right _ _ (by simp; omega), show k - i = (k - (i + 1)) + 1 from by omega, List.replicate_succ]
      simp [hl]
    rw [e] at h1
    exact h1
  rows := (h.rows.push hb h.below.size ho).setCell (own_block (own_via h.own hb)) rowNe _
  below := (h.below.via hb).setCell (Nat.le_refl _) _
set_option maxHeartbeats 1600000 in
theorem cdSplitNo {w : World} {g gf k m c : Nat} {A : Option Addr} (h : Cdr w g gf k m A c) (Ab : Option Addr) (nb cb : Nat) (W : Int) (hnb : nb ≤ maxLen) (hW : W < 1 ∨ 65536 < W ∨ (1 ≤ W ∧ W ≤ 65536 ∧ (k : Int) * W < nb)) :
    Calls Try.prog 8 #[.pointer (some ⟨g, 0, none⟩), .slice Ab nb cb, .int .i64 W] w fun e w' => e = .returned (.tuple #[.slice none 0 0, .int .i64 (if W < 1 ∨ 65536 < W then 2 else 260)]) ∧ w' = w := by
  unfold maxLen at hnb
  have HN := Lib.hid (cdNone h)
  have h0 := h.c0
  have hkm := h.hs
  clear h
  rcases hW with hW | hW | ⟨h1, h2, h3⟩
  · rw [if_pos (.inl hW)]
    go_enter Try.func8, Try.ntmps8
    go_wp2_with (go_at_call 18; refine HN.out.mono ?_; rintro e w' ⟨rfl, rfl⟩)
    first | go_ret2 | go_ret
    exact ⟨rfl, rfl⟩
  · rw [if_pos (.inr hW)]
    go_enter Try.func8, Try.ntmps8
    go_wp2_with (go_at_call 18; refine HN.out.mono ?_; rintro e w' ⟨rfl, rfl⟩)
    first | go_ret2 | go_ret
    exact ⟨rfl, rfl⟩
  · rw [if_neg (by omega)]
    obtain ⟨T, hT⟩ : ∃ T, (k : Int) * W = T := ⟨_, rfl⟩
    have hTb : 0 ≤ T ∧ T ≤ 255 * 65536 := by
      rw [← hT]
      exact ⟨Int.mul_nonneg (by omega) (by omega), Int.mul_le_mul (by omega) h2 (by omega) (by omega)⟩
    rw [hT] at h3
    go_enter Try.func8, Try.ntmps8
    go_wp2_with (go_at_call 18; refine HN.out.mono ?_; rintro e w' ⟨rfl, rfl⟩)
    first | go_ret2 | go_ret
    exact ⟨rfl, rfl⟩
set_option maxHeartbeats 3200000 in
theorem cdSplit {w : World} {g gf k m c : Nat} {A : Option Addr} (h : Cdr w g gf k m A c) (B : Nat) (Ab : Option Addr) (nb cb W : Nat) (bs : List UInt8) (hr : Rd w B Ab (bs.map bv)) (hB : B ≤ w.heap.size) (hn : bs.length = nb) (hcb : nb ≤ cb) (hcm : cb ≤ maxLen) (hW : 1 ≤ W ∧ W ≤ 65536) (hle : nb ≤ k * W) :
    Calls Try.prog 8 #[.pointer (some ⟨g, 0, none⟩), .slice Ab nb cb, .int .i64 (W : Int)] w (NewR (Cod.splitD bs W k) 0 w) := by
  have HN := Lib.hid (cdNone h)
  have h0 := h.c0
  have hkm := h.hs
  obtain ⟨T, hT⟩ : ∃ T, k * W = T := ⟨_, rfl⟩
  have hTb : T ≤ 255 * 65536 := by
    rw [← hT]
    exact Nat.mul_le_mul (by omega) hW.2
  have hmul : (k : Int) * (W : Int) = (T : Int) := by rw [← hT]; simp
  rw [hT] at hle
  have hmk := makeR k k (Nat.le_refl _) (by omega)
  obtain ⟨i0, hi, hz0, hz1, hz2⟩ := info_parts infoByte
  have hmk2 : ∀ V : World, (Instr.makeSlice 22 (.int .i64 0) (.int .i64 (W : Int))).run Try.prog V = .ok (.slice (some ⟨V.heap.size, 0, none⟩) 0 W) (V.alloc (.cells (madeCells #[.int .u8 0] W) 5)) := fun V => by
    have := run_make (P := Try.prog) V 22 5 i0 (.int .u8 0) Try.underlying22 hi hz0 .i64 .i64 0 (W : Int) (by omega) (by omega) (by rw [hz2]; omega) (by omega)
    rw [hz1, Nat.mul_one, Int.toNat_natCast] at this
    exact this
  have HR := Lib.hid hr
  have HNB := Lib.hid hn
  have hal : Below w.heap.size w (w.alloc (.cells (madeCells #[.slice none 0 0] k) 22)) := (Below.refl _ _).alloc (Nat.le_refl _) _
  have hC := h.below hal
  have h02 := hC.c0
  have e1 : decide ((W : Int) < 1) = false := by simp; omega
  have e2 : decide ((65536 : Int) < (W : Int)) = false := by simp; omega
  have e3 : decide (T < nb) = false := by simp; omega
  have e4 : decide ((T : Int) < (nb : Int)) = false := by simp; omega
  unfold maxLen at hcm
  clear hT h hr hn hal hC hi hz0 hz1 hz2
  go_enter Try.func8, Try.ntmps8
  go_wp2_with (go_at_call 18; refine HN.out.mono ?_; rintro e w' ⟨rfl, rfl⟩)
  go_loopw [1, 9, 10, 40] (fun b _ _ i wr => ∃ (p : Nat) (A' : Option Addr) (n' c' : Nat) (M : List RowB), i = .int .i64 p ∧ p ≤ k ∧ b = .slice A' n' c' ∧ n' ≤ c' ∧ c' ≤ 9223372036854775807 ∧ Hid ((bs.drop (p * W)).length = n') ∧ Hid (Rd w' B A' ((bs.drop (p * W)).map bv)) ∧ Hid (SplI w' bs W k p M wr)) (fun _ _ _ i _ => k - (intOf i).toNat)
  case atStart =>
    refine ⟨0, Ab, nb, cb, [], rfl, Nat.zero_le _, rfl, hcb, hcm, ?_, ?_, ⟨rfl, ?_, RowsNew.nil, (Below.refl _ _).alloc (Nat.le_refl _) _⟩⟩
    · show _ = _; rw [Nat.zero_mul, List.drop_zero]; exact HNB.out
    · show Rd _ _ _ _; rw [Nat.zero_mul, List.drop_zero]; exact HR.out
    · have := own_made w' w'.heap.size 22 (.slice none 0 0) k k (Nat.le_refl _) (Nat.le_refl _) (by unfold maxLen; omega)
      simpa using this
  case round =>
    clear h0 h02 hmk hmul HN HR HNB
    obtain ⟨p, A', n', c', M, rfl, hp, rfl, hnc, hcm', HL, HRD, HI⟩ := hrel
    by_cases hlt : p < k
    · obtain ⟨q, hq⟩ : ∃ q, (W < n' ∧ q = W) ∨ (¬ W < n' ∧ q = n') := by
        by_cases hx : W < n'
        · exact ⟨W, .inl ⟨hx, rfl⟩⟩
        · exact ⟨n', .inr ⟨hx, rfl⟩⟩
      have HQ : Hid (q = min (bs.drop (p * W)).length W) := by
        show _ = _
        rw [HL.out]
        omega
      have hqW : q ≤ W := by omega
      have hqn : q ≤ n' := by omega
      have hsl1 := fun V : World => run_cut_to (P := Try.prog) 22 5 Try.underlying22 sizeByte A' n' c' q .i64 (by omega) V
      have hsl2 := fun (V : World) (X : Nat) => run_cut_to (P := Try.prog) 22 5 Try.underlying22 sizeByte (some ⟨X, 0, none⟩) q W W .i64 (Nat.le_refl _) V
      have hsl3 := fun V : World => run_cut_from (P := Try.prog) 22 5 Try.underlying22 sizeByte A' n' c' q .i64 (by omega) V
      have hz := HI.out.below.size
      have HPD := fun ty => run_pad (wr.drew.alloc (.cells (madeCells #[.int .u8 0] W) 5)) wr.heap.size W (Blk.new wr.drew _ _) B A' ((bs.drop (p * W)).take q) q c' (by
        have hb2 : Below w'.heap.size w' (wr.drew.alloc (.cells (madeCells #[.int .u8 0] W) 5)) := (below_drewN HI.out.below 1).alloc hz _
        have h5 := (HRD.out.below (hb2.mono hB)).take q
        rw [← List.map_take] at h5
        exact h5) (by rw [List.length_take, HL.out]; omega) hqW (by unfold maxLen; omega) wr.heap.size (Nat.le_refl _) ty
      have HTK : Hid (Cod.pad ((bs.drop (p * W)).take q) W = Cod.cutRow bs W p) := by
        show _ = _
        unfold Cod.cutRow
        rw [HQ.out, List.take_eq_take_iff.2]
        omega
      have HDR : Hid ((bs.drop (p * W)).drop q = bs.drop ((p + 1) * W)) := (show _ = _ by rw [HQ.out]; exact Cod.drop_next bs W p)
      have HPD2 := Lib.hid HPD
      have HC2 := Lib.hid (fun w2 hb => HI.out.cells (w2 := w2) hlt hb)
      have HPU := Lib.hid (fun w2 c3 hb ho => HI.out.push (w2 := w2) hlt hb (r := ⟨some ⟨wr.heap.size, 0, none⟩, W, c3, Cod.cutRow bs W p⟩) rfl ho)
      have HRN : Hid (Rd w' B (cut A' c' q) ((bs.drop ((p + 1) * W)).map bv)) := by
        show Rd _ _ _ _
        rw [← HDR.out, List.map_drop]
        exact HRD.out.cut (by rw [List.length_map, HL.out]; exact hqn) (by rw [List.length_map, HL.out]; exact hnc)
      have HLN : Hid ((bs.drop ((p + 1) * W)).length = n' - q) := by
        show _ = _
        rw [← HDR.out, List.length_drop, HL.out]
      clear HPD HI HL HRD HQ HDR
      rcases hq with ⟨hx, rfl⟩ | ⟨hx, rfl⟩
      all_goals
        go_wp2
        refine wp_region_held_drew (S := (fun _ => True)) (by kernel_rfl) trivial (fun _ => ?_)
        refine wpAnyH_take (i := 0) (v := ?_) rfl (by kernel_rfl) (by kernel_rfl) (by kernel_rfl) (fun _ _ _ h => h) (Or.inl ⟨by rfl, ?_⟩) trivial ?_
        rotate_left
        · intro wS hSw
          go_simp
          try with_reducible rfl
        try simp only [List.getElem_toArray, List.getElem_cons_zero, List.getElem_cons_succ, Act.put, List.setIfInBounds_toArray, List.set_cons_zero, List.set_cons_succ]
        refine wpAnyH_take (i := 1) (v := ?_) rfl (by kernel_rfl) (by kernel_rfl) (by kernel_rfl) (fun _ _ _ h => h) (Or.inl ⟨by rfl, ?_⟩) trivial ?_
        rotate_left
        · intro wS hSw
          go_simp
          try with_reducible rfl
        try simp only [List.getElem_toArray, List.getElem_cons_zero, List.getElem_cons_succ, Act.put, List.setIfInBounds_toArray, List.set_cons_zero, List.set_cons_succ]
        refine wpAnyH_take (i := 2) (v := ?_) rfl (by kernel_rfl) (by kernel_rfl) (by kernel_rfl) (fun _ _ _ h => h) (Or.inl ⟨by rfl, ?_⟩) trivial ?_
        rotate_left
        · intro wS hSw
          go_simp
          try with_reducible rfl
        try simp only [List.getElem_toArray, List.getElem_cons_zero, List.getElem_cons_succ, Act.put, List.setIfInBounds_toArray, List.set_cons_zero, List.set_cons_succ]
        refine wpAnyH_take (i := 4) (v := ?_) rfl (by kernel_rfl) (by kernel_rfl) (by kernel_rfl) (fun _ _ _ h => h) (Or.inl ⟨by rfl, ?_⟩) trivial ?_
        rotate_left
        · intro wS hSw
          go_simp
          try with_reducible rfl
        try simp only [List.getElem_toArray, List.getElem_cons_zero, List.getElem_cons_succ, Act.put, List.setIfInBounds_toArray, List.set_cons_zero, List.set_cons_succ]
        refine wpAnyH_take (i := 5) (v := ?_) rfl (by kernel_rfl) (by kernel_rfl) (by kernel_rfl) (fun _ _ _ h => h) (Or.inl ⟨by rfl, ?_⟩) trivial ?_
        rotate_left
        · intro wS hSw
          go_simp
          try with_reducible rfl
        try simp only [List.getElem_toArray, List.getElem_cons_zero, List.getElem_cons_succ, Act.put, List.setIfInBounds_toArray, List.set_cons_zero, List.set_cons_succ]
        refine wpAnyH_take (i := 6) (v := ?_) rfl (by kernel_rfl) (by kernel_rfl) (by kernel_rfl) (fun _ _ _ h => h) (Or.inl ⟨by rfl, ?_⟩) trivial ?_
        rotate_left
        · intro wS hSw
          go_simp
          try with_reducible rfl
        try simp only [List.getElem_toArray, List.getElem_cons_zero, List.getElem_cons_succ, Act.put, List.setIfInBounds_toArray, List.set_cons_zero, List.set_cons_succ]
        refine wpAnyH_take (i := 8) (v := ?_) rfl (by kernel_rfl) (by kernel_rfl) (by kernel_rfl) (fun _ _ _ h => h) (Or.inl ⟨by rfl, ?_⟩) trivial ?_
        rotate_left
        · intro wS hSw
          go_simp
          try with_reducible rfl
        try simp only [List.getElem_toArray, List.getElem_cons_zero, List.getElem_cons_succ, Act.put, List.setIfInBounds_toArray, List.set_cons_zero, List.set_cons_succ]
        refine wpAnyH_ready (rs := [3]) (by kernel_rfl) (by simp) ?_
        refine AllReadyH.cons rfl (fun K hK => ?_) AllReadyH.nil
        go_simp
        refine hK.out _ _ trivial (fun _ => ?_)
        clear hK K
        try simp only [List.getElem_toArray, List.getElem_cons_zero, List.getElem_cons_succ, Act.put, List.setIfInBounds_toArray, List.set_cons_zero, List.set_cons_succ]
        refine wpAnyH_ready (rs := [7]) (by kernel_rfl) (by simp) ?_
        refine AllReadyH.cons rfl (fun K hK => ?_) AllReadyH.nil
        obtain ⟨w2, hrun, ho2, hb2⟩ := HPD2.out (22)
        rw [HTK.out] at ho2
        have hb3 : Below wr.heap.size wr w2 := ((below_drewN (Below.refl wr.heap.size wr) 1).alloc (Nat.le_refl _) _).trans hb2
        obtain ⟨⟨v0, hcl⟩, hfz⟩ := HC2.out w2 hb3
        have HPX := Lib.hid (HPU.out w2 _ hb3 ho2)
        clear ho2 hb2 hb3
        refine wp_append (.tmp 50) (.tmp 53) 22 rfl _ _ _ rfl rfl hrun ?_
        refine hK.out _ _ trivial (fun _ => ?_)
        clear hK K
        try simp only [List.getElem_toArray, List.getElem_cons_zero, List.getElem_cons_succ, Act.put, List.setIfInBounds_toArray, List.set_cons_zero, List.set_cons_succ]
        refine wpAnyH_take (i := 9) (v := ?_) rfl (by kernel_rfl) (by kernel_rfl) (by kernel_rfl) (fun _ _ _ h => h) (Or.inl ⟨by rfl, ?_⟩) trivial ?_
        rotate_left
        · intro wS hSw
          go_simp
          try with_reducible rfl
        try simp only [List.getElem_toArray, List.getElem_cons_zero, List.getElem_cons_succ, Act.put, List.setIfInBounds_toArray, List.set_cons_zero, List.set_cons_succ]
        refine wpAnyH_take (i := 10) (v := ?_) rfl (by kernel_rfl) (by kernel_rfl) (by kernel_rfl) (fun _ _ _ h => h) (Or.inl ⟨by rfl, ?_⟩) trivial ?_
        rotate_left
        · intro wS hSw
          go_simp
          try with_reducible rfl
        try simp only [List.getElem_toArray, List.getElem_cons_zero, List.getElem_cons_succ, Act.put, List.setIfInBounds_toArray, List.set_cons_zero, List.set_cons_succ]
        refine wpAnyH_ready (rs := [11]) (by kernel_rfl) (by simp) ?_
        refine AllReadyH.cons rfl (fun K hK => ?_) AllReadyH.nil
        go_simp
        refine hK.out _ _ trivial (fun _ => ?_)
        clear hK K
        try simp only [List.getElem_toArray, List.getElem_cons_zero, List.getElem_cons_succ, Act.put, List.setIfInBounds_toArray, List.set_cons_zero, List.set_cons_succ]
        refine wpAnyH_done (by kernel_rfl) ?_ _
        go_wp2
        go_roundw
        case rel => exact ⟨p + 1, _, _, _, _, by go_num, hlt, rfl, by omega, by omega, (by first | exact HLN | (show _ = _; have := HLN.out; omega)), HRN, HPX⟩
        case measure => simp [intOf]; omega
    · obtain rfl : p = k := by omega
      have hI := HI.out
      have hl := hI.len
      have ho := hI.own
      rw [Nat.sub_self, List.replicate_zero, List.append_nil] at ho
      go_wp2
      first | go_ret2 | go_ret
      exact ⟨_, p, p, M, rfl, hI.bs, hl, ho, hI.rows, hI.below⟩
end Cib

end
