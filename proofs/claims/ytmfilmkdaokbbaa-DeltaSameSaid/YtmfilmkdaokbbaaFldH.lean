/- Multiples of rows, their sums, and products of rows: the document's. -/
import Derived.Test.YtmfilmkdaokbbaaFldG
import Derived.Test.YtmfilmkdaokbbaaFldE
import Derived.Test.YtmfilmkdaokbbaaReg
set_option linter.unusedVariables false
set_option linter.unusedSimpArgs false
set_option maxRecDepth 20000
namespace Cib
open Go Go.RowKit Go.Proofs

theorem scB_next (c : Nat) (row : List UInt8) {k : Nat} (h : k < row.length) : scB c (row.take (k + 1)) = scB c (row.take k) ++ [UInt8.ofNat (Fld.gmul c row[k].toNat)] := by
  unfold scB
  rw [List.take_succ_eq_append_getElem h, List.map_append]
  rfl
theorem foB_next2 {c : Nat} {row into : List UInt8} {k : Nat} (h : k < into.length) : (foB c row into).take (k + 1) = (foB c row into).take k ++ [UInt8.ofNat (into[k].toNat ^^^ Fld.gmul c (row.getD k 0).toNat)] := by
  have h' : k < (foB c row into).length := by rw [foB_length]; exact h
  rw [List.take_succ_eq_append_getElem h', foB_get h]
theorem refScale3 (c : Nat) (hc : c < 256) (A : Option Addr) (cap : Nat) (row : List UInt8) (w : World) (B : Nat) (h : Rd w B A (row.map bv)) {len : Nat} (hn : row.length = len) (hB : B ≤ w.heap.size) (hl : len ≤ 1000000000) :
    Calls Try.prog 32 #[.int .u8 (c : Int), .slice A len cap] w (NewB (scB c row) w) := by
  subst hn
  go_enter Try.func32, Try.ntmps32
  go_wp2
  go_loopw [5, 6] (fun o i wr => ∃ k A2 c2, k ≤ row.length ∧ i = .int .i64 (k : Nat) ∧ o = .slice A2 k c2 ∧ Below w.heap.size w wr ∧ wr.ownsRow w.heap.size 5 1 (.slice A2 k c2) k ((scB c (row.take k)).map bv)) (fun _ i _ => row.length - (intOf i).toNat)
  case atStart => exact ⟨0, none, 0, Nat.zero_le _, rfl, rfl, Below.refl _ _, World.ownsRow_nil _ _ _ _⟩
  case round =>
    obtain ⟨k, A2, c2, hk, rfl, rfl, hb, ho⟩ := hrel
    have hsz := hb.size
    by_cases hlt : k < row.length
    · obtain ⟨ad, rfl, hB2, hc2⟩ := (h.below (hb.mono hB)).byte hlt
      have HN := Lib.hid (scB_next c row hlt)
      have hT := refMul3 c row[k].toNat hc row[k].toNat_lt wr
      obtain ⟨z, HZ, hz⟩ := byte_mk (Fld.gmul_lt (b := row[k].toNat) hc)
      rw [hz] at hT
      have HT := Lib.hid hT
      clear hT hz
      go_wp2_with (first | (go_at_call 59; refine HT.out.mono ?_; rintro e w' ⟨rfl, rfl⟩) | (at_builtin; refine appB _ rfl (.tmp 13) (.tmp 20) rfl w.heap.size A2 k c2 _ rfl (ho.alloc _) _ (some ⟨wr.heap.size, 0, none⟩) 1 1 [bv z] rfl rfl (Rd.new wr _ _ _ rfl) one_byte (by omega) (by simp; omega) ?_; intro A3 c3 w3 ho3 hg3 hb3))
      exact ⟨⟨k + 1, A3, c3, by omega, by go_num, rfl, (hb.alloc hb.size _).trans hb3, by rw [HN.out, HZ.out, List.map_append]; exact ho3⟩, by simp [intOf]; omega⟩
    · obtain rfl : k = row.length := by omega
      rw [List.take_length] at ho
      go_wp2
      go_ret
      exact ⟨_, _, _, rfl, scB_length _ _, ho, hb⟩
end Cib
