/- The code, plainly: factors, shards, sums of rows. No program. -/
import Derived.Test.YtmfilmkdaokbbaaMatC
set_option linter.unusedVariables false
set_option linter.unusedSimpArgs false
set_option maxRecDepth 20000
namespace Cib
open Go Go.RowKit Go.Proofs
namespace Cod
/-- The factor of data row j in shard i, of a coder of k data rows. -/
def fac (k i j : Nat) : Nat := if i < k then (if i = j then 1 else 0) else (divA 1 (i ^^^ j)).1
theorem fac_lt (k i j : Nat) : fac k i j < 256 := by
  unfold fac
  split
  · split <;> decide
  · exact divA_lt _ _
def facRow (k i : Nat) : List UInt8 := (List.range k).map fun j => UInt8.ofNat (fac k i j)
theorem facRow_length (k i : Nat) : (facRow k i).length = k := by simp [facRow]
theorem ofNat_toNat {n : Nat} (h : n < 256) : (UInt8.ofNat n).toNat = n := by rw [UInt8.toNat_ofNat', Nat.mod_eq_of_lt (by omega)]
theorem facRow_get (k i : Nat) {j : Nat} (h : j < k) : ((facRow k i).getD j 0).toNat = fac k i j := by
  rw [List.getD_eq_getElem?_getD, List.getElem?_eq_getElem (by rw [facRow_length]; exact h), Option.getD_some]
  simp only [facRow, List.getElem_map, List.getElem_range]
  exact ofNat_toNat (fac_lt _ _ _)
/-- The numbers from one on, as bytes. -/
def ris (a n : Nat) : List UInt8 := (List.range n).map fun i => UInt8.ofNat (a + i)
theorem ris_length (a n : Nat) : (ris a n).length = n := by simp [ris]
theorem ris_get {a n i : Nat} (h : i < n) (ha : a + n ≤ 256) : ((ris a n).getD i 0).toNat = a + i := by
  rw [List.getD_eq_getElem?_getD, List.getElem?_eq_getElem (by rw [ris_length]; exact h), Option.getD_some]
  simp only [ris, List.getElem_map, List.getElem_range]
  exact ofNat_toNat (by omega)
theorem ris_next (a n : Nat) : ris a (n + 1) = ris a n ++ [UInt8.ofNat (a + n)] := by simp [ris, List.range_succ]
theorem ris_mem {a n : Nat} {x : UInt8} (ha : a + n ≤ 256) (h : x ∈ ris a n) : a ≤ x.toNat ∧ x.toNat < a + n := by
  simp only [ris, List.mem_map, List.mem_range] at h
  obtain ⟨i, hi, rfl⟩ := h
  rw [ofNat_toNat (by omega)]
  omega
theorem ris_nodup (a : Nat) : ∀ n, a + n ≤ 256 → (ris a n).Nodup
  | 0, _ => by simp [ris]
  | n + 1, h => by
    rw [ris_next]
    refine nodup_snoc (ris_nodup a n (by omega)) fun hm => ?_
    have := (ris_mem (by omega) hm).2
    rw [ofNat_toNat (by omega)] at this
    omega
theorem ris_both {k m : Nat} (h : k + m ≤ 255) : (ris k m ++ ris 0 k).Nodup := by
  rw [List.nodup_append]
  refine ⟨ris_nodup k m (by omega), ris_nodup 0 k (by omega), ?_⟩
  intro x hx y hy e
  subst e
  have h1 := ris_mem (by omega) hx
  have h2 := ris_mem (by omega) hy
  omega
theorem cau_fac {k m i j : Nat} (h : k + m ≤ 255) (hi : i < m) (hj : j < k) : (cauV (ris k m) (ris 0 k) i j).toNat = fac k (k + i) j := by
  rw [cauV_nat, ris_get hi (by omega), ris_get hj (by omega), Nat.zero_add]
  unfold fac
  rw [if_neg (by omega)]
/-- The length of the first row. -/
def len0 (D : List (List UInt8)) : Nat := (D.headD []).length
/-- Are rows of one length? -/
def evn (D : List (List UInt8)) : Bool := D.all fun r => r.length == len0 D
theorem evn_true {D : List (List UInt8)} : evn D = true ↔ ∀ r ∈ D, r.length = len0 D := by simp [evn]
theorem evn_get {D : List (List UInt8)} (h : evn D = true) {j : Nat} (hj : j < D.length) : D[j].length = len0 D := evn_true.1 h _ (List.getElem_mem hj)
theorem len0_eq {D : List (List UInt8)} (h : 0 < D.length) : len0 D = D[0].length := by
  cases D with
  | nil => simp at h
  | cons a l => rfl
/-- The sum of the first p rows, each times its factor. -/
def sumTo (f : List UInt8) (D : List (List UInt8)) (W : Nat) : Nat → List UInt8
  | 0 => List.replicate W 0
  | p + 1 => foB (f.getD p 0).toNat (D.getD p []) (sumTo f D W p)
theorem sumTo_length (f : List UInt8) (D : List (List UInt8)) (W : Nat) : ∀ p, (sumTo f D W p).length = W
  | 0 => by simp [sumTo]
  | p + 1 => by rw [sumTo, foB_length, sumTo_length f D W p]
/-- A byte of shard i: of the first p rows. -/
def shB (k : Nat) (D : List (List UInt8)) (i at_ : Nat) : Nat → Nat
  | 0 => 0
  | p + 1 => shB k D i at_ p ^^^ Fld.gmul (fac k i p) ((D.getD p []).getD at_ 0).toNat
theorem shB_lt (k : Nat) (D : List (List UInt8)) (i at_ : Nat) : ∀ p, shB k D i at_ p < 256
  | 0 => by simp [shB]
  | p + 1 => Fld.xor_lt (shB_lt k D i at_ p) (Fld.gmul_lt (fac_lt _ _ _))
/-- Shard i. -/
def shard (k : Nat) (D : List (List UInt8)) (i : Nat) : List UInt8 := (List.range (len0 D)).map fun at_ => UInt8.ofNat (shB k D i at_ D.length)
theorem shard_length (k : Nat) (D : List (List UInt8)) (i : Nat) : (shard k D i).length = len0 D := by simp [shard]
theorem sumTo_get (k : Nat) (D : List (List UInt8)) (i W : Nat) : ∀ p, p ≤ k → ∀ (at_ : Nat) (h : at_ < (sumTo (facRow k i) D W p).length), (sumTo (facRow k i) D W p)[at_] = UInt8.ofNat (shB k D i at_ p)
  | 0, _, at_, h => by simp [sumTo, shB]
  | p + 1, hp, at_, h => by
    have h1 : at_ < (sumTo (facRow k i) D W p).length := by rw [sumTo_length] at h ⊢; exact h
    have e : (sumTo (facRow k i) D W (p + 1))[at_] = (foB ((facRow k i).getD p 0).toNat (D.getD p []) (sumTo (facRow k i) D W p))[at_]'(by rw [foB_length]; exact h1) := by simp only [sumTo]
    rw [e, foB_get h1, sumTo_get k D i W p (by omega) at_ h1, facRow_get k i (by omega), ofNat_toNat (shB_lt _ _ _ _ _)]
    rfl
theorem sum_shard {k : Nat} {D : List (List UInt8)} (i : Nat) (hk : D.length = k) : sumTo (facRow k i) D (len0 D) k = shard k D i := by
  apply List.ext_getElem
  · rw [sumTo_length, shard_length]
  · intro at_ h1 h2
    rw [sumTo_get k D i _ k (Nat.le_refl _)]
    simp [shard, hk]
theorem shB_data {k : Nat} {D : List (List UInt8)} {i : Nat} (hi : i < k) (at_ : Nat) : ∀ p, shB k D i at_ p = if i < p then ((D.getD i []).getD at_ 0).toNat else 0
  | 0 => by simp [shB]
  | p + 1 => by
    rw [shB, shB_data hi at_ p]
    unfold fac
    rw [if_pos hi]
    by_cases he : i = p
    · subst he
      rw [if_pos rfl, if_neg (by omega), if_pos (by omega), Fld.one_mul_all _ (UInt8.toNat_lt _)]
      simp
    · rw [if_neg he, Fld.zero_mul]
      by_cases hlt : i < p
      · rw [if_pos hlt, if_pos (by omega)]; simp
      · rw [if_neg hlt, if_neg (by omega)]; rfl
/-- The first shards are the data. -/
theorem shard_data {k : Nat} {D : List (List UInt8)} {i : Nat} (hk : D.length = k) (hi : i < k) (he : evn D = true) : shard k D i = D[i] := by
  have hil : i < D.length := by omega
  have hl := evn_get he hil
  apply List.ext_getElem
  · rw [shard_length, hl]
  · intro at_ h1 h2
    simp only [shard, List.getElem_map, List.getElem_range]
    rw [shB_data hi, if_pos (by omega)]
    simp [List.getD, hil, h2]
end Cod
end Cib
