/- What a change of one byte of one row does, plainly; a store into one row. -/
import Derived.Test.YtmfilmkdaokbbaaDltP
set_option linter.unusedVariables false
set_option linter.unusedSimpArgs false
set_option maxRecDepth 20000
namespace Cib
open Go Go.RowKit Go.Proofs
theorem shards_get (k : Nat) (D : List (List UInt8)) (n : Nat) {j : Nat} (h : j < n) : (Cod.shards k D n).getD j [] = Cod.shard k D j := by simp [Cod.shards, List.getD, h]
theorem shards_take {k m : Nat} {D : List (List UInt8)} (hk : D.length = k) (he : Cod.evn D = true) : (Cod.shards k D (k + m)).take k = D := by
  rw [← Cod.shards_data hk he, ← hk, List.take_left]
theorem off_none {k m : Nat} {D : List (List UInt8)} (hk : D.length = k) (he : Cod.evn D = true) : ∀ p, p ≤ m → Dlt.off k (Cod.shards k D (k + m)) p = []
  | 0, _ => rfl
  | p + 1, hp => by
    rw [Dlt.off, if_pos (by rw [shards_get _ _ _ (by omega), shards_take hk he]), off_none hk he p (by omega)]
theorem off_par {k m at_ : Nat} {D : List (List UInt8)} (hk : D.length = k) (he : Cod.evn D = true) (h1 : k ≤ at_) (h2 : at_ < k + m) (y : List UInt8) (hy : y ≠ Cod.shard k D at_) : ∀ p, p ≤ m → Dlt.off k ((Cod.shards k D (k + m)).set at_ y) p = if at_ < k + p then [at_] else []
  | 0, _ => by rw [if_neg (by omega)]; rfl
  | p + 1, hp => by
    have ht : ((Cod.shards k D (k + m)).set at_ y).take k = D := by
      rw [List.take_set_of_le (by omega), shards_take hk he]
    rw [Dlt.off, ht, off_par hk he h1 h2 y hy p (by omega)]
    by_cases h3 : at_ = k + p
    · have hg : ((Cod.shards k D (k + m)).set at_ y).getD (k + p) [] = y := by
        rw [← h3]
        simp [List.getD, Cod.shards_length, h2]
      rw [hg, if_neg (by rw [← h3]; exact hy), if_neg (by omega), if_pos (by omega), h3]
      rfl
    · have hg : ((Cod.shards k D (k + m)).set at_ y).getD (k + p) [] = Cod.shard k D (k + p) := by
        rw [← shards_get k D (k + m) (show k + p < k + m by omega)]
        simp only [List.getD]
        rw [List.getElem?_set_ne h3]
      rw [if_pos hg]
      by_cases h4 : at_ < k + p
      · rw [if_pos h4, if_pos (by omega)]
      · rw [if_neg h4, if_neg (by omega)]
theorem xor_ne_zero {a b : Nat} (h : a ≠ b) : a ^^^ b ≠ 0 := fun h' => h (nat_xor_zero h')
theorem fac_ne {k i j : Nat} (hi : k ≤ i) (hj : j < k) (hi2 : i < 256) : Cod.fac k i j ≠ 0 := by
  unfold Cod.fac divA
  rw [if_neg (by omega), if_neg (xor_ne_zero (by omega))]
  simp only
  intro h
  have := Fld.div_mul (a := 1) (b := i ^^^ j) (by decide) (Fld.xor_lt hi2 (by omega)) (xor_ne_zero (by omega))
  rw [h, Fld.zero_mul] at this
  exact absurd this (by decide)
theorem shB_change (k : Nat) (D : List (List UInt8)) (i q at_ mask : Nat) (y : List UInt8) (hat : at_ < D.length) (hy : (y.getD q 0).toNat = ((D.getD at_ []).getD q 0).toNat ^^^ mask) : ∀ p, Cod.shB k (D.set at_ y) i q p = Cod.shB k D i q p ^^^ (if at_ < p then Fld.gmul (Cod.fac k i at_) mask else 0)
  | 0 => by simp [Cod.shB]
  | p + 1 => by
    rw [Cod.shB, Cod.shB, shB_change k D i q at_ mask y hat hy p]
    by_cases h : at_ = p
    · subst h
      have hg : (D.set at_ y).getD at_ [] = y := by simp [List.getD, hat]
      rw [hg, hy, Fld.mul_xor, if_neg (by omega), if_pos (by omega), Nat.xor_zero, Nat.xor_assoc]
    · have hg : (D.set at_ y).getD p [] = D.getD p [] := by
        simp only [List.getD]
        rw [List.getElem?_set_ne h]
      rw [hg]
      by_cases h2 : at_ < p
      · rw [if_pos h2, if_pos (by omega), Nat.xor_assoc, Nat.xor_assoc, Nat.xor_comm (Fld.gmul (Cod.fac k i at_) mask)]
      · rw [if_neg h2, if_neg (by omega), Nat.xor_zero, Nat.xor_zero]
theorem off_data {k m at_ q mask : Nat} {D : List (List UInt8)} (hk : D.length = k) (he : Cod.evn D = true) (hkm : k + m ≤ 255) (h1 : at_ < k) (y : List UInt8) (hyl : y.length = Cod.len0 D) (hq : q < Cod.len0 D) (hm0 : mask ≠ 0) (hm : mask < 256)
    (hy : (y.getD q 0).toNat = ((D.getD at_ []).getD q 0).toNat ^^^ mask) : ∀ p, p ≤ m → Dlt.off k ((Cod.shards k D (k + m)).set at_ y) p = (List.range p).map fun j => k + j
  | 0, _ => rfl
  | p + 1, hp => by
    have ht : ((Cod.shards k D (k + m)).set at_ y).take k = D.set at_ y := by
      rw [List.take_set, shards_take hk he]
    have hg : ((Cod.shards k D (k + m)).set at_ y).getD (k + p) [] = Cod.shard k D (k + p) := by
      rw [← shards_get k D (k + m) (show k + p < k + m by omega)]
      simp only [List.getD]
      rw [List.getElem?_set_ne (by omega)]
    have hl : Cod.len0 (D.set at_ y) = Cod.len0 D := by
      rw [Cod.len0_eq (by rw [List.length_set]; omega), List.getElem_set]
      split
      · exact hyl
      · rw [Cod.len0_eq (by omega)]
    have hne : ¬ (Cod.shard k D (k + p) = Cod.shard k (D.set at_ y) (k + p)) := by
      intro h
      have h1' : q < (Cod.shard k D (k + p)).length := by rw [Cod.shard_length]; exact hq
      have h2' : q < (Cod.shard k (D.set at_ y) (k + p)).length := by rw [Cod.shard_length, hl]; exact hq
      have h3 : (Cod.shard k D (k + p))[q] = (Cod.shard k (D.set at_ y) (k + p))[q] := by
        have := congrArg (fun l : List UInt8 => l[q]?) h
        simp only [List.getElem?_eq_getElem h1', List.getElem?_eq_getElem h2', Option.some.injEq] at this
        exact this
      simp only [Cod.shard, List.getElem_map, List.getElem_range, List.length_set] at h3
      have h4 := congrArg UInt8.toNat h3
      rw [Cod.ofNat_toNat (Cod.shB_lt _ _ _ _ _), Cod.ofNat_toNat (Cod.shB_lt _ _ _ _ _), shB_change k D (k + p) q at_ mask y (by omega) hy, if_pos (by omega)] at h4
      have h5 : Cod.shB k D (k + p) q D.length ^^^ (Cod.shB k D (k + p) q D.length ^^^ Fld.gmul (Cod.fac k (k + p) at_) mask) = 0 := by
        rw [← h4, Nat.xor_self]
      rw [← Nat.xor_assoc, Nat.xor_self, Nat.zero_xor] at h5
      exact Fld.mul_ne (Cod.fac_lt _ _ _) hm (fac_ne (by omega) h1 (by omega)) hm0 h5
    rw [Dlt.off, ht, hg, if_neg hne, off_data hk he hkm h1 y hyl hq hm0 hm hy p (by omega), List.range_succ, List.map_append]
    rfl
/-- A byte is stored into one of the rows that the call made. -/
theorem RowsNew.store {w : World} {base : Nat} {L : List RowB} (h : RowsNew w base L) {at_ spot g : Nat} (hat : at_ < L.length) (hA : L[at_].A = some ⟨g, 0, none⟩) (hs : spot < L[at_].bs.length) (z : UInt8) (q : Nat) :
    RowsNew ((w.drewN q).setCell ⟨g, spot, none⟩ (.int .u8 (z.toNat : Int))) base (L.set at_ ⟨L[at_].A, L[at_].n, L[at_].c, L[at_].bs.set spot z⟩) := by
  have hown := h.own _ (List.getElem_mem hat)
  have hgb : (Value.slice L[at_].A L[at_].n L[at_].c).ownBlock = some g := by rw [hA]; rfl
  have hpw := List.pairwise_iff_getElem.1 h.apart
  refine ⟨fun r hr => ?_, ?_⟩
  · obtain ⟨j, hj, rfl⟩ := List.mem_iff_getElem.1 hr
    rw [List.length_set] at hj
    rw [List.getElem_set]
    split
    · simp only
      rw [hA] at hown ⊢
      exact (own_byte hown hs).2.2 z q
    · rename_i hne
      refine ownsRow_setCell_other (w := w.drewN q) (h.own _ (List.getElem_mem hj)) (fun he => ?_) _
      rcases Nat.lt_or_gt_of_ne hne with hlt | hgt
      · exact hpw at_ j hat hj hlt g hgb he
      · exact hpw j at_ hj hat hgt g he hgb
  · have hmap : (L.set at_ ⟨L[at_].A, L[at_].n, L[at_].c, L[at_].bs.set spot z⟩).map (fun r : RowB => (r.A, r.n, r.c)) = L.map (fun r : RowB => (r.A, r.n, r.c)) := by
      apply List.ext_getElem
      · simp
      · intro j h1 h2
        simp only [List.getElem_map, List.getElem_set]
        split
        · rename_i he
          subst he
          rfl
        · rfl
    have h2 : (L.map (fun r : RowB => (r.A, r.n, r.c))).Pairwise (fun r s => ∀ k, (Value.slice r.1 r.2.1 r.2.2).ownBlock = some k → (Value.slice s.1 s.2.1 s.2.2).ownBlock ≠ some k) := List.pairwise_map.2 h.apart
    rw [← hmap] at h2
    exact List.pairwise_map.1 h2
theorem set_v {L : List RowB} {at_ : Nat} (hat : at_ < L.length) (x : List UInt8) : (L.set at_ ⟨L[at_].A, L[at_].n, L[at_].c, x⟩).map RowB.v = L.map RowB.v := by
  apply List.ext_getElem
  · simp
  · intro j h1 h2
    simp only [List.getElem_map, List.getElem_set]
    split
    · rename_i he
      subst he
      rfl
    · rfl
theorem set_bss {L : List RowB} {at_ : Nat} (r : RowB) : bss (L.set at_ r) = (bss L).set at_ r.bs := by
  unfold bss
  rw [List.map_set]
end Cib
