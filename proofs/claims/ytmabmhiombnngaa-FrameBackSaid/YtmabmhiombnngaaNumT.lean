/- What package num's texts compute. -/
import Derived.Test.YtmabmhiombnngaaNumG
set_option linter.unusedVariables false
set_option linter.unusedSimpArgs false
set_option maxRecDepth 20000
namespace Go.Proofs.Ytmabmhiombnngaa
open Go.RowKit Cib

theorem take_snocB (ss : List UInt8) (k : Nat) (h : k < ss.length) : ss.take (k + 1) = ss.take k ++ [ss[k]] := List.take_succ_eq_append_getElem h

theorem numPutS (A : Option Addr) (cap : Nat) (bs : List UInt8) (s : ByteArray) (w : World) (B : Nat) (h : Rd w B A (bs.map bv)) {len : Nat} (hn : bs.length = len) (hB : B ≤ w.heap.size) (hr : len + 2 * s.size + 20 ≤ 140737488355328) :
    Calls Try.prog 34 #[.slice A len cap, .string s] w (NewBytes (Num.text bs s.data.toList) w) := by
  subst hn
  have hsl : s.data.toList.length = s.size := Array.length_toList
  have HSL := Lib.hid hsl
  have HT : Hid (Num.text bs s.data.toList = (bs ++ Num.vb s.size) ++ s.data.toList) := by unfold Hid Num.text; rw [hsl, List.append_assoc]
  have hvl := (Num.varB_length 9 s.size)
  have HVL : (Num.vb s.size).length ≤ 10 := hvl.2
  clear hsl hvl
  go_enter Try.func34, Try.ntmps34
  go_wp2_with fail
  refine (numGrown A cap bs _ _ _ h rfl hB (by omega) (by omega)).mono ?_
  rintro e w1 ⟨A1, n1, c1, rfl, rfl, ho1, hb1⟩
  go_wp2_with fail
  refine (numPutVar A1 c1 bs s.size _ _ (Rd.of_own ho1) rfl (Nat.le_refl _) (by omega) (by omega)).mono ?_
  rintro e w2 ⟨A2, n2, c2, rfl, hn2, ho2, hb2⟩
  replace hb2 := hb1.via hb2
  replace ho2 := ho2.mono hb1.size
  have hn2' : n2 ≤ bs.length + 10 := by rw [← hn2, List.length_append]; omega
  have HN2 := Lib.hid hn2
  clear ho1 hn2 hb1 HVL
  generalize Num.vb s.size = vs at *
  go_wp2
  go_loopw [5, 6, 18] (fun b _ i wr => ∃ k A3 c3, k ≤ s.size ∧ i = .int .i64 (k : Nat) ∧ Below w.heap.size w wr ∧ b = .slice A3 (n2 + k) c3 ∧ wr.ownsRow w.heap.size 5 1 (.slice A3 (n2 + k) c3) (n2 + k) (((bs ++ vs) ++ s.data.toList.take k).map bv)) (fun _ _ i _ => s.size - (intOf i).toNat)
  case atStart => exact ⟨0, A2, c2, Nat.zero_le _, rfl, hb2, rfl, by simpa using ho2⟩
  case round =>
    clear hb2 ho2
    obtain ⟨k, A3, c3, hk, rfl, hb, rfl, ho⟩ := hrel
    have hsz := hb.size
    by_cases hlt : k < s.size
    · have HTK := Lib.hid (take_snocB s.data.toList k (by rw [HSL.out]; exact hlt))
      have hel : s.data.toList[k]'(by rw [HSL.out]; exact hlt) = s[k] := rfl
      rw [hel] at HTK
      clear hel
      go_wp2_with (at_builtin; refine appB _ rfl (.tmp 21) (.tmp 25) rfl w.heap.size A3 (n2 + k) c3 _ rfl (ho.alloc _) _ (some ⟨wr.heap.size, 0, none⟩) 1 1 [bv s[k]] rfl rfl (Rd.new wr _ _ _ rfl) one_byte (by omega) (by simp; omega) ?_; intro A4 c4 w4 ho4 hg4 hb4)
      exact ⟨⟨k + 1, A4, c4, by omega, by go_num, (hb.alloc hb.size _).trans hb4, rfl, by rw [HTK.out, ← List.append_assoc, List.map_append]; exact ho4⟩, by simp [intOf]; omega⟩
    · obtain rfl : k = s.size := by omega
      have HA : Hid (s.data.toList.take s.size = s.data.toList) := List.take_of_length_le (by rw [HSL.out]; exact Nat.le_refl _)
      rw [HA.out] at ho
      go_wp2
      go_ret
      exact ⟨_, _, _, rfl, by rw [HT.out, List.length_append, HN2.out, HSL.out], by rw [HT.out]; exact ho, hb⟩

theorem numPutText (A : Option Addr) (cap : Nat) (bs : List UInt8) (s : ByteArray) (w : World) (B : Nat) (h : Rd w B A (bs.map bv)) {len : Nat} (hn : bs.length = len) (hB : B ≤ w.heap.size) (hr : len + 2 * s.size + 20 ≤ 140737488355328) :
    Calls Try.prog 21 #[.slice A len cap, .string s] w (NewBytes (Num.text bs s.data.toList) w) := by
  go_enter Try.func21, Try.ntmps21
  go_wp2_with fail
  refine (numPutS A cap bs s _ _ h hn hB hr).mono ?_
  rintro e w1 ⟨A1, n1, c1, rfl, hn1, ho1, hb1⟩
  go_wp2_with fail
  go_ret
  exact ⟨_, _, _, rfl, hn1, ho1, hb1⟩

end Go.Proofs.Ytmabmhiombnngaa
