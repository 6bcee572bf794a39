/- Sums of rows and multiples of rows: the field's. -/
import Derived.Test.YtnicfpkadiamaaaFldQ
import Derived.Deep.RegionWith
set_option linter.unusedVariables false
set_option linter.unusedSimpArgs false
set_option maxRecDepth 20000
namespace Cib
open Go Go.RowKit Go.Proofs

/-- A row, and a multiple of another one added to it. -/
def foB (c : Nat) (row into : List UInt8) : List UInt8 := into.mapIdx fun i y => UInt8.ofNat (y.toNat ^^^ Fld.gmul c (row.getD i 0).toNat)
theorem foB_length (c : Nat) (row into : List UInt8) : (foB c row into).length = into.length := by simp [foB]
theorem foB_get {c : Nat} {row into : List UInt8} {i : Nat} (h : i < into.length) (h' : i < (foB c row into).length) : (foB c row into)[i] = UInt8.ofNat (into[i].toNat ^^^ Fld.gmul c (row.getD i 0).toNat) := by simp [foB]
theorem foB_nil (c : Nat) (into : List UInt8) : foB c [] into = into := by
  apply List.ext_getElem
  · exact foB_length _ _ _
  · intro i h1 h2
    rw [foB_get h2]
    simp [Fld.mul_zero]
theorem foB_toNat {c : Nat} (hc : c < 256) (y x : UInt8) : (UInt8.ofNat (y.toNat ^^^ Fld.gmul c x.toNat)).toNat = y.toNat ^^^ Fld.gmul c x.toNat := by
  rw [UInt8.toNat_ofNat']
  exact Nat.mod_eq_of_lt (Fld.xor_lt y.toNat_lt (Fld.gmul_lt hc))
theorem foB_next {c : Nat} {row into : List UInt8} {k : Nat} (hr : k < row.length) (hi : k < into.length) : (foB c (row.take k) into).set k (UInt8.ofNat (into[k].toNat ^^^ Fld.gmul c row[k].toNat)) = foB c (row.take (k + 1)) into := by
  apply List.ext_getElem
  · simp [foB_length]
  · intro i h1 h2
    have h3 : i < into.length := by rw [foB_length] at h2; exact h2
    rw [foB_get h3, List.getElem_set]
    split
    · rename_i he
      subst he
      rw [List.getD_eq_getElem?_getD, List.getElem?_take_of_lt (by omega)]
      simp [hr]
    · rename_i he
      rw [foB_get h3]
      simp only [List.getD_eq_getElem?_getD]
      by_cases hk : i < k
      · rw [List.getElem?_take_of_lt hk, List.getElem?_take_of_lt (by omega)]
      · rw [List.getElem?_take_eq_none (by omega), List.getElem?_take_eq_none (by omega)]
theorem foB_here {c : Nat} {row into : List UInt8} {k : Nat} (hi : k < into.length) (h : k < (foB c (row.take k) into).length) : (foB c (row.take k) into)[k] = into[k] := by
  rw [foB_get hi, List.getD_eq_getElem?_getD, List.getElem?_take_eq_none (Nat.le_refl _)]
  simp [Fld.mul_zero]
theorem foB_over {c : Nat} {row into : List UInt8} {k : Nat} (h : into.length ≤ k) : foB c (row.take k) into = foB c row into := by
  apply List.ext_getElem
  · simp [foB_length]
  · intro i h1 h2
    have h3 : i < into.length := by rw [foB_length] at h2; exact h2
    rw [foB_get h3, foB_get h3]
    simp only [List.getD_eq_getElem?_getD]
    rw [List.getElem?_take_of_lt (by omega)]
theorem foB_over' {c : Nat} {row into : List UInt8} {k : Nat} (h : into.length ≤ k ∨ row.length ≤ k) : foB c (row.take k) into = foB c row into := by
  rcases h with h | h
  · exact foB_over h
  · rw [List.take_of_length_le h]
set_option maxHeartbeats 1600000 in
theorem fldFold (g c : Nat) (hc : c < 256) (A1 : Option Addr) (c1 : Nat) (row : List UInt8) (A2 : Option Addr) (c2 : Nat) (into : List UInt8) (w : World) (h : Fld w g) (B1 B2 : Nat) (hra : ∀ w1, Aft g w w1 → Rd w1 B1 A1 (row.map bv)) (hrb : ∀ w1, Aft g w w1 → Rd w1 B2 A2 (into.map bv)) {n1 n2 : Nat} (hn1 : row.length = n1) (hn2 : into.length = n2) (hB1 : B1 ≤ w.heap.size) (hB2 : B2 ≤ w.heap.size) (hl1 : n1 ≤ 1000000000) (hl2 : n2 ≤ 1000000000) (hc1 : n1 ≤ c1) :
    Calls Try.prog 40 #[.pointer (some ⟨g, 0, none⟩), .int .u8 (c : Int), .slice A1 n1 c1, .slice A2 n2 c2] w (NewF g (foB c row into) w) := by
  subst hn1 hn2
  by_cases hd : into.length < row.length
  · have hd0 := hd
    have hsl := fun W : World => run_cut_to (P := Try.prog) 22 5 Try.underlying22 sizeByte A1 row.length c1 into.length .i64 (by omega) W
    go_enter Try.func40, Try.ntmps40
    go_wp2_with (first | (go_at_call 49; refine (fldReadyA g w h).mono ?_; rintro e w1 ⟨rfl, ha⟩) | (at_builtin; refine appB _ rfl (.const (.slice none 0 0)) (.tmp 16) rfl w1.heap.size none 0 0 [] rfl (World.ownsRow_nil _ _ _ _) B2 A2 into.length c2 (into.map bv) rfl (by simp) (hrb w1 ha) one_bytes (by omega) (Nat.le_refl _) ?_; intro A' c' w2 ho2 hg2 hb2; rw [Nat.zero_add] at ho2 ⊢; rw [List.nil_append] at ho2))
    clear hsl hg2
    go_loopw [11, 12, 27] (fun _ _ i wr => ∃ k : Nat, k ≤ into.length ∧ i = .int .i64 k ∧ Below w1.heap.size w1 wr ∧ wr.ownsRow w1.heap.size 5 1 (.slice A' into.length c') into.length ((foB c (row.take k) into).map bv)) (fun _ _ i _ => into.length - (intOf i).toNat)
    case atStart => exact ⟨0, Nat.zero_le _, rfl, hb2, by rw [List.take_zero, foB_nil]; exact ho2⟩
    case round =>
      clear ho2 hb2
      obtain ⟨k, hk, rfl, hb, ho⟩ := hrel
      have hsz := Lib.hid ha.size
      by_cases hlt : k < into.length
      · have hlr : k < row.length := by omega
        have hli : k < into.length := by omega
        obtain ⟨ad, rfl, hB, hc2⟩ := (((hra w1 ha).more (by have := hsz.out; omega : B1 ≤ w1.heap.size)).below hb).byte hlr
        obtain ⟨g', rfl, hg'⟩ := own_at ho (by omega)
        have hF := Lib.hid (ha.full.below hb ha.full.lt)
        have hlf : k < (foB c (row.take k) into).length := by rw [foB_length]; exact hli
        obtain ⟨hc1', hf1, hset⟩ := own_byte ho (j := k) hlf
        rw [foB_here hli hlf] at hc1'
        have hd := into[k].toNat_lt
        have hg := Fld.gmul_lt (b := row[k].toNat) hc
        obtain ⟨z, HZ, HX⟩ : ∃ z : UInt8, Hid (UInt8.ofNat (into[k].toNat ^^^ Fld.gmul c row[k].toNat) = z) ∧ bits .xor .u8 (into[k].toNat : Int) (Fld.gmul c row[k].toNat : Int) = (z.toNat : Int) :=
          ⟨UInt8.ofNat (into[k].toNat ^^^ Fld.gmul c row[k].toNat), by (show _ = _; rfl), by rw [u8_xor_nat _ _ hd hg, foB_toNat hc]⟩
        have HS := Lib.hid (hset z)
        clear hset
        have HN : Hid ((foB c (row.take k) into).set k z = foB c (row.take (k + 1)) into) := by (show _ = _; rw [← HZ.out]; exact foB_next hlr hli)
        go_wp2
        go_region_with (go_at_call 50; refine (fldTmul g c row[k].toNat hc row[k].toNat_lt _ (hF.out.drewN _)).mono ?_; rintro e w' ⟨rfl, n, rfl⟩)
        all_goals go_wp2
        all_goals (refine ⟨⟨k + 1, by omega, by go_num, (below_drewN hb _).setCell hg' _, ?_⟩, by simp [intOf]; omega⟩; have hs := HS.out (1 + n); rw [HN.out] at hs; exact hs)
      · obtain rfl : k = into.length := by omega
        rw [foB_over' (by omega)] at ho
        go_wp2
        go_ret
        exact ⟨_, _, _, rfl, foB_length _ _ _, by rw [← hsz.out]; exact ho, ha.stp hb⟩
  · have hd0 := hd
    have hsl := fun W : World => run_cut_to (P := Try.prog) 22 5 Try.underlying22 sizeByte A1 row.length c1 row.length .i64 (by omega) W
    go_enter Try.func40, Try.ntmps40
    go_wp2_with (first | (go_at_call 49; refine (fldReadyA g w h).mono ?_; rintro e w1 ⟨rfl, ha⟩) | (at_builtin; refine appB _ rfl (.const (.slice none 0 0)) (.tmp 16) rfl w1.heap.size none 0 0 [] rfl (World.ownsRow_nil _ _ _ _) B2 A2 into.length c2 (into.map bv) rfl (by simp) (hrb w1 ha) one_bytes (by omega) (Nat.le_refl _) ?_; intro A' c' w2 ho2 hg2 hb2; rw [Nat.zero_add] at ho2 ⊢; rw [List.nil_append] at ho2))
    clear hsl hg2
    go_loopw [11, 12, 27] (fun _ _ i wr => ∃ k : Nat, k ≤ row.length ∧ i = .int .i64 k ∧ Below w1.heap.size w1 wr ∧ wr.ownsRow w1.heap.size 5 1 (.slice A' into.length c') into.length ((foB c (row.take k) into).map bv)) (fun _ _ i _ => row.length - (intOf i).toNat)
    case atStart => exact ⟨0, Nat.zero_le _, rfl, hb2, by rw [List.take_zero, foB_nil]; exact ho2⟩
    case round =>
      clear ho2 hb2
      obtain ⟨k, hk, rfl, hb, ho⟩ := hrel
      have hsz := Lib.hid ha.size
      by_cases hlt : k < row.length
      · have hlr : k < row.length := by omega
        have hli : k < into.length := by omega
        obtain ⟨ad, rfl, hB, hc2⟩ := (((hra w1 ha).more (by have := hsz.out; omega : B1 ≤ w1.heap.size)).below hb).byte hlr
        obtain ⟨g', rfl, hg'⟩ := own_at ho (by omega)
        have hF := Lib.hid (ha.full.below hb ha.full.lt)
        have hlf : k < (foB c (row.take k) into).length := by rw [foB_length]; exact hli
        obtain ⟨hc1', hf1, hset⟩ := own_byte ho (j := k) hlf
        rw [foB_here hli hlf] at hc1'
        have hd := into[k].toNat_lt
        have hg := Fld.gmul_lt (b := row[k].toNat) hc
        obtain ⟨z, HZ, HX⟩ : ∃ z : UInt8, Hid (UInt8.ofNat (into[k].toNat ^^^ Fld.gmul c row[k].toNat) = z) ∧ bits .xor .u8 (into[k].toNat : Int) (Fld.gmul c row[k].toNat : Int) = (z.toNat : Int) :=
          ⟨UInt8.ofNat (into[k].toNat ^^^ Fld.gmul c row[k].toNat), by (show _ = _; rfl), by rw [u8_xor_nat _ _ hd hg, foB_toNat hc]⟩
        have HS := Lib.hid (hset z)
        clear hset
        have HN : Hid ((foB c (row.take k) into).set k z = foB c (row.take (k + 1)) into) := by (show _ = _; rw [← HZ.out]; exact foB_next hlr hli)
        go_wp2
        go_region_with (go_at_call 50; refine (fldTmul g c row[k].toNat hc row[k].toNat_lt _ (hF.out.drewN _)).mono ?_; rintro e w' ⟨rfl, n, rfl⟩)
        all_goals go_wp2
        all_goals (refine ⟨⟨k + 1, by omega, by go_num, (below_drewN hb _).setCell hg' _, ?_⟩, by simp [intOf]; omega⟩; have hs := HS.out (1 + n); rw [HN.out] at hs; exact hs)
      · obtain rfl : k = row.length := by omega
        rw [foB_over' (by omega)] at ho
        go_wp2
        go_ret
        exact ⟨_, _, _, rfl, foB_length _ _ _, by rw [← hsz.out]; exact ho, ha.stp hb⟩
end Cib
