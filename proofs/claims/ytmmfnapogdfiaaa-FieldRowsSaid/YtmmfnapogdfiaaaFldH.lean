/- Multiples of rows, their sums, and products of rows: the document's. -/
import Derived.Test.YtmmfnapogdfiaaaFldG
import Derived.Test.YtmmfnapogdfiaaaFldE
set_option linter.unusedVariables false
set_option linter.unusedSimpArgs false
set_option maxRecDepth 20000
namespace Cib
open Go Go.RowKit Go.Proofs

/-- A byte of a number below 256. -/
theorem byte_mk {n : Nat} (h : n < 256) : ∃ z : UInt8, Hid (UInt8.ofNat n = z) ∧ n = z.toNat :=
  ⟨UInt8.ofNat n, by (show _ = _; rfl), by rw [UInt8.toNat_ofNat', Nat.mod_eq_of_lt (by omega)]⟩
theorem scB_next (c : Nat) (row : List UInt8) {k : Nat} (h : k < row.length) : scB c (row.take (k + 1)) = scB c (row.take k) ++ [UInt8.ofNat (Fld.gmul c row[k].toNat)] := by
  unfold scB
  rw [List.take_succ_eq_append_getElem h, List.map_append]
  rfl
theorem foB_next2 {c : Nat} {row into : List UInt8} {k : Nat} (h : k < into.length) : (foB c row into).take (k + 1) = (foB c row into).take k ++ [UInt8.ofNat (into[k].toNat ^^^ Fld.gmul c (row.getD k 0).toNat)] := by
  have h' : k < (foB c row into).length := by rw [foB_length]; exact h
  rw [List.take_succ_eq_append_getElem h', foB_get h]
theorem refScale3 (c : Nat) (hc : c < 256) (A : Option Addr) (cap : Nat) (row : List UInt8) (w : World) (B : Nat) (h : Rd w B A (row.map bv)) {len : Nat} (hn : row.length = len) (hB : B ≤ w.heap.size) (hl : len ≤ 1000000000) :
    Calls Try.prog 19 #[.int .u8 (c : Int), .slice A len cap] w (NewB (scB c row) w) := by
  subst hn
  go_enter Try.func19, Try.ntmps19
  go_wp2
  go_loopw [5, 6] (fun o i wr => ∃ k A2 c2, k ≤ row.length ∧ i = .int .i64 (k : Nat) ∧ o = .slice A2 k c2 ∧ Below w.heap.size w wr ∧ wr.ownsRow w.heap.size 5 1 (.slice A2 k c2) k ((scB c (row.take k)).map bv)) (fun _ i _ => row.length - (intOf i).toNat)
  case atStart => exact ⟨0, none, 0, Nat.zero_le _, rfl, rfl, Below.refl _ _, World.ownsRow_nil _ _ _ _⟩
  case round =>
    obtain ⟨k, A2, c2, hk, rfl, rfl, hb, ho⟩ := hrel
    have hsz := hb.size
    by_cases hlt : k < row.length
    · obtain ⟨ad, rfl, hB2, hc2⟩ := (h.below (hb.mono hB)).byte hlt
      have HN := Lib.hid (scB_next c row hlt)
      have hT := refMul3 c row[k].toNat hc row[k].toNat_lt wr
      obtain ⟨z, HZ, hz⟩ := byte_mk (Fld.gmul_lt (b := row[k].toNat) hc)
      rw [hz] at hT
      have HT := Lib.hid hT
      clear hT hz
      go_wp2_with (first | (go_at_call 13; refine HT.out.mono ?_; rintro e w' ⟨rfl, rfl⟩) | (at_builtin; refine appB _ rfl (.tmp 13) (.tmp 20) rfl w.heap.size A2 k c2 _ rfl (ho.alloc _) _ (some ⟨wr.heap.size, 0, none⟩) 1 1 [bv z] rfl rfl (Rd.new wr _ _ _ rfl) one_byte (by omega) (by simp; omega) ?_; intro A3 c3 w3 ho3 hg3 hb3))
      exact ⟨⟨k + 1, A3, c3, by omega, by go_num, rfl, (hb.alloc hb.size _).trans hb3, by rw [HN.out, HZ.out, List.map_append]; exact ho3⟩, by simp [intOf]; omega⟩
    · obtain rfl : k = row.length := by omega
      rw [List.take_length] at ho
      go_wp2
      go_ret
      exact ⟨_, _, _, rfl, scB_length _ _, ho, hb⟩
theorem refFold3 (c : Nat) (hc : c < 256) (A1 : Option Addr) (c1 : Nat) (row : List UInt8) (A : Option Addr) (cap : Nat) (into : List UInt8) (w : World) (B1 B : Nat) (h1 : Rd w B1 A1 (row.map bv)) (h : Rd w B A (into.map bv)) {len1 len : Nat} (hn1 : row.length = len1) (hn : into.length = len) (hB1 : B1 ≤ w.heap.size) (hB : B ≤ w.heap.size) (hl1 : len1 ≤ 1000000000) (hl : len ≤ 1000000000) :
    Calls Try.prog 20 #[.int .u8 (c : Int), .slice A1 len1 c1, .slice A len cap] w (NewB (foB c row into) w) := by
  subst hn hn1
  go_enter Try.func20, Try.ntmps20
  go_wp2
  go_loopw [7, 8, 9] (fun o i _ wr => ∃ k A2 c2, k ≤ into.length ∧ i = .int .i64 (k : Nat) ∧ o = .slice A2 k c2 ∧ Below w.heap.size w wr ∧ wr.ownsRow w.heap.size 5 1 (.slice A2 k c2) k (((foB c row into).take k).map bv)) (fun _ i _ _ => into.length - (intOf i).toNat)
  case atStart => exact ⟨0, none, 0, Nat.zero_le _, rfl, rfl, Below.refl _ _, World.ownsRow_nil _ _ _ _⟩
  case round =>
    obtain ⟨k, A2, c2, hk, rfl, rfl, hb, ho⟩ := hrel
    have hsz := hb.size
    by_cases hlt : k < into.length
    · obtain ⟨ad, rfl, hB2, hc2⟩ := (h.below (hb.mono hB)).byte hlt
      have hN := foB_next2 (c := c) (row := row) hlt
      by_cases hr : k < row.length
      · obtain ⟨ad1, rfl, hB3, hc3⟩ := (h1.below (hb.mono hB1)).byte hr
        rw [List.getD_eq_getElem?_getD, List.getElem?_eq_getElem hr, Option.getD_some] at hN
        have HN := Lib.hid hN
        clear hN
        have HT := Lib.hid (refMul3 c row[k].toNat hc row[k].toNat_lt wr)
        have hd := into[k].toNat_lt
        have hg := Fld.gmul_lt (b := row[k].toNat) hc
        obtain ⟨z, HZ, HX⟩ : ∃ z : UInt8, Hid (UInt8.ofNat (into[k].toNat ^^^ Fld.gmul c row[k].toNat) = z) ∧ bits .xor .u8 (into[k].toNat : Int) (Fld.gmul c row[k].toNat : Int) = (z.toNat : Int) :=
          ⟨UInt8.ofNat (into[k].toNat ^^^ Fld.gmul c row[k].toNat), by (show _ = _; rfl), by rw [u8_xor_nat _ _ hd hg, foB_toNat hc]⟩
        go_wp2_with (first | (go_at_call 13; refine HT.out.mono ?_; rintro e w' ⟨rfl, rfl⟩) | (at_builtin; refine appB _ rfl (.tmp 32) (.tmp 34) rfl w.heap.size A2 k c2 _ rfl (ho.alloc _) _ (some ⟨wr.heap.size, 0, none⟩) 1 1 [bv z] rfl rfl (Rd.new wr _ _ _ rfl) one_byte (by omega) (by simp; omega) ?_; intro A3 c3 w3 ho3 hg3 hb3))
        exact ⟨⟨k + 1, A3, c3, by omega, by go_num, rfl, (hb.alloc hb.size _).trans hb3, by rw [HN.out, HZ.out, List.map_append]; exact ho3⟩, by simp [intOf]; omega⟩
      · rw [List.getD_eq_getElem?_getD, List.getElem?_eq_none (by omega), Option.getD_none, show ((0 : UInt8).toNat) = 0 from rfl, Fld.mul_zero, Nat.xor_zero, UInt8.ofNat_toNat] at hN
        have HN := Lib.hid hN
        clear hN
        generalize into[k] = z at *
        go_wp2_with (at_builtin; refine appB _ rfl (.tmp 32) (.tmp 34) rfl w.heap.size A2 k c2 _ rfl (ho.alloc _) _ (some ⟨wr.heap.size, 0, none⟩) 1 1 [bv z] rfl rfl (Rd.new wr _ _ _ rfl) one_byte (by omega) (by simp; omega) ?_; intro A3 c3 w3 ho3 hg3 hb3)
        exact ⟨⟨k + 1, A3, c3, by omega, by go_num, rfl, (hb.alloc hb.size _).trans hb3, by rw [HN.out, List.map_append]; exact ho3⟩, by simp [intOf]; omega⟩
    · obtain rfl : k = into.length := by omega
      rw [← foB_length c row into, List.take_length, foB_length] at ho
      go_wp2
      go_ret
      exact ⟨_, _, _, rfl, foB_length _ _ _, ho, hb⟩
theorem refDot3 (A1 : Option Addr) (c1 : Nat) (a : List UInt8) (A2 : Option Addr) (c2 : Nat) (b : List UInt8) (w : World) (B1 B2 : Nat) (h1 : Rd w B1 A1 (a.map bv)) (h2 : Rd w B2 A2 (b.map bv)) {n1 n2 : Nat} (hn1 : a.length = n1) (hn2 : b.length = n2) (hB1 : B1 ≤ w.heap.size) (hB2 : B2 ≤ w.heap.size) (hl1 : n1 ≤ 1000000000) (hl2 : n2 ≤ 1000000000) :
    Calls Try.prog 22 #[.slice A1 n1 c1, .slice A2 n2 c2] w fun e w' => e = .returned (.int .u8 (dotN a b (min n1 n2) : Nat)) ∧ Below w.heap.size w w' := by
  subst hn1 hn2
  go_enter Try.func22, Try.ntmps22
  go_wp2
  go_loopw [5, 6] (fun s i wr => ∃ k : Nat, k ≤ a.length ∧ k ≤ b.length ∧ i = .int .i64 k ∧ s = .int .u8 (dotN a b k : Nat) ∧ Below w.heap.size w wr) (fun _ i _ => a.length - (intOf i).toNat)
  case atStart => exact ⟨0, Nat.zero_le _, Nat.zero_le _, rfl, rfl, Below.refl _ _⟩
  case round =>
    obtain ⟨k, hka', hkb', rfl, rfl, hb⟩ := hrel
    by_cases hka : k < a.length
    · by_cases hkb : k < b.length
      · obtain ⟨ad, rfl, _, hca⟩ := (h1.below (hb.mono hB1)).byte hka
        obtain ⟨bd, rfl, _, hcb⟩ := (h2.below (hb.mono hB2)).byte hkb
        have hd := dotN_lt a b k
        have hg := Fld.gmul_lt (b := b[k].toNat) a[k].toNat_lt
        have HX : Hid (bits .xor .u8 (dotN a b k : Int) (Fld.gmul a[k].toNat b[k].toNat : Int) = (dotN a b (k + 1) : Int)) := by
          show _ = _
          rw [u8_xor_nat _ _ hd hg, dotN_next hka hkb]
        have HM := fun W => Lib.hid ((refMul3 a[k].toNat b[k].toNat a[k].toNat_lt b[k].toNat_lt W).mono (fun _ _ ⟨he, hw⟩ => (⟨he, 0, hw.symm⟩ : _ ∧ ∃ n, _ = W.drewN n)))
        go_wp2
        go_quiet (first | (go_at_call 13; refine Calls.quiet_of (HM _).out))
        go_wp2
        exact ⟨⟨k + 1, by omega, by omega, by go_num, int_eq HX.out, below_drewN hb _⟩, by simp [intOf]; omega⟩
      · obtain rfl : k = b.length := by omega
        go_wp2
        go_ret
        exact ⟨by rw [Nat.min_eq_right (by omega)]; rfl, hb⟩
    · obtain rfl : k = a.length := by omega
      go_wp2
      go_ret
      exact ⟨by rw [Nat.min_eq_left (by omega)]; rfl, hb⟩
end Cib
