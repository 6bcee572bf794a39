/- Multiples of rows, their sums, and products of rows: the document's. -/
import Derived.Test.YtnicfpkadiamaaaFldG
import Derived.Test.YtnicfpkadiamaaaFldE
import Derived.Test.YtnicfpkadiamaaaReg
set_option linter.unusedVariables false
set_option linter.unusedSimpArgs false
set_option maxRecDepth 20000
namespace Cib
open Go Go.RowKit Go.Proofs

theorem scB_next (c : Nat) (row : List UInt8) {k : Nat} (h : k < row.length) : scB c (row.take (k + 1)) = scB c (row.take k) ++ [UInt8.ofNat (Fld.gmul c row[k].toNat)] := by
  unfold scB
  rw [List.take_succ_eq_append_getElem h, List.map_append]
  rfl
theorem foB_next2 {c : Nat} {row into : List UInt8} {k : Nat} (h : k < into.length) : (foB c row into).take (k + 1) = (foB c row into).take k ++ [UInt8.ofNat (into[k].toNat ^^^ Fld.gmul c (row.getD k 0).toNat)] := by
  have h' : k < (foB c row into).length := by rw [foB_length]; exact h
  rw [List.take_succ_eq_append_getElem h', foB_get h]
theorem refFold3 (c : Nat) (hc : c < 256) (A1 : Option Addr) (c1 : Nat) (row : List UInt8) (A : Option Addr) (cap : Nat) (into : List UInt8) (w : World) (B1 B : Nat) (h1 : Rd w B1 A1 (row.map bv)) (h : Rd w B A (into.map bv)) {len1 len : Nat} (hn1 : row.length = len1) (hn : into.length = len) (hB1 : B1 ≤ w.heap.size) (hB : B ≤ w.heap.size) (hl1 : len1 ≤ 1000000000) (hl : len ≤ 1000000000) :
    Calls Try.prog 37 #[.int .u8 (c : Int), .slice A1 len1 c1, .slice A len cap] w (NewB (foB c row into) w) := by
  subst hn hn1
  go_enter Try.func37, Try.ntmps37
  go_wp2
  go_loopw [7, 8, 9] (fun o i _ wr => ∃ k A2 c2, k ≤ into.length ∧ i = .int .i64 (k : Nat) ∧ o = .slice A2 k c2 ∧ Below w.heap.size w wr ∧ wr.ownsRow w.heap.size 5 1 (.slice A2 k c2) k (((foB c row into).take k).map bv)) (fun _ i _ _ => into.length - (intOf i).toNat)
  case atStart => exact ⟨0, none, 0, Nat.zero_le _, rfl, rfl, Below.refl _ _, World.ownsRow_nil _ _ _ _⟩
  case round =>
    obtain ⟨k, A2, c2, hk, rfl, rfl, hb, ho⟩ := hrel
    have hsz := hb.size
    by_cases hlt : k < into.length
    · obtain ⟨ad, rfl, hB2, hc2⟩ := (h.below (hb.mono hB)).byte hlt
      have hN := foB_next2 (c := c) (row := row) hlt
      by_cases hr : k < row.length
      · obtain ⟨ad1, rfl, hB3, hc3⟩ := (h1.below (hb.mono hB1)).byte hr
        rw [List.getD_eq_getElem?_getD, List.getElem?_eq_getElem hr, Option.getD_some] at hN
        have HN := Lib.hid hN
        clear hN
        have HT := Lib.hid (refMul3 c row[k].toNat hc row[k].toNat_lt wr)
        have hd := into[k].toNat_lt
        have hg := Fld.gmul_lt (b := row[k].toNat) hc
        obtain ⟨z, HZ, HX⟩ : ∃ z : UInt8, Hid (UInt8.ofNat (into[k].toNat ^^^ Fld.gmul c row[k].toNat) = z) ∧ bits .xor .u8 (into[k].toNat : Int) (Fld.gmul c row[k].toNat : Int) = (z.toNat : Int) :=
          ⟨UInt8.ofNat (into[k].toNat ^^^ Fld.gmul c row[k].toNat), by (show _ = _; rfl), by rw [u8_xor_nat _ _ hd hg, foB_toNat hc]⟩
        go_wp2_with (first | (go_at_call 38; refine HT.out.mono ?_; rintro e w' ⟨rfl, rfl⟩) | (at_builtin; refine appB _ rfl (.tmp 32) (.tmp 34) rfl w.heap.size A2 k c2 _ rfl (ho.alloc _) _ (some ⟨wr.heap.size, 0, none⟩) 1 1 [bv z] rfl rfl (Rd.new wr _ _ _ rfl) one_byte (by omega) (by simp; omega) ?_; intro A3 c3 w3 ho3 hg3 hb3))
        exact ⟨⟨k + 1, A3, c3, by omega, by go_num, rfl, (hb.alloc hb.size _).trans hb3, by rw [HN.out, HZ.out, List.map_append]; exact ho3⟩, by simp [intOf]; omega⟩
      · rw [List.getD_eq_getElem?_getD, List.getElem?_eq_none (by omega), Option.getD_none, show ((0 : UInt8).toNat) = 0 from rfl, Fld.mul_zero, Nat.xor_zero, UInt8.ofNat_toNat] at hN
        have HN := Lib.hid hN
        clear hN
        generalize into[k] = z at *
        go_wp2_with (at_builtin; refine appB _ rfl (.tmp 32) (.tmp 34) rfl w.heap.size A2 k c2 _ rfl (ho.alloc _) _ (some ⟨wr.heap.size, 0, none⟩) 1 1 [bv z] rfl rfl (Rd.new wr _ _ _ rfl) one_byte (by omega) (by simp; omega) ?_; intro A3 c3 w3 ho3 hg3 hb3)
        exact ⟨⟨k + 1, A3, c3, by omega, by go_num, rfl, (hb.alloc hb.size _).trans hb3, by rw [HN.out, List.map_append]; exact ho3⟩, by simp [intOf]; omega⟩
    · obtain rfl : k = into.length := by omega
      rw [← foB_length c row into, List.take_length, foB_length] at ho
      go_wp2
      go_ret
      exact ⟨_, _, _, rfl, foB_length _ _ _, ho, hb⟩
end Cib
