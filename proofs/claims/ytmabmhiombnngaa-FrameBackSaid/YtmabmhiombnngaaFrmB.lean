/- A piece in which bits are turned ends what is told: plain Lean, no program. -/
import Derived.Test.YtmabmhiombnngaaFrmP
set_option linter.unusedVariables false
set_option linter.unusedSimpArgs false
namespace Frm
open Crc
theorem leB_cons (x n : Nat) : Num.leB x (n + 1) = UInt8.ofNat x :: Num.leB (x / 256) n := by
  apply List.ext_getElem
  · simp [Num.leB_length]
  · intro i h1 h2
    rcases i with _ | i
    · simp [Num.leB]
    · simp only [Num.leB, List.getElem_map, List.getElem_range, List.getElem_cons_succ]
      rw [Nat.div_div_eq_div_mul, Nat.pow_succ, Nat.mul_comm]
theorem leB_nil (x : Nat) : Num.leB x 0 = [] := rfl
theorem bitAt_leB : ∀ (n x j : Nat), j < 8 * n → bitAt (Num.leB x n) j = x / 2 ^ j % 2
  | 0, x, j, h => by omega
  | n + 1, x, j, h => by
    rw [leB_cons]
    by_cases hj : j < 8
    · have e1 : j / 8 = 0 := by omega
      have e2 : j % 8 = j := by omega
      unfold bitAt
      rw [e1, e2]
      show (UInt8.ofNat x).toNat / 2 ^ j % 2 = _
      rw [UInt8.toNat_ofNat']
      have : j = 0 ∨ j = 1 ∨ j = 2 ∨ j = 3 ∨ j = 4 ∨ j = 5 ∨ j = 6 ∨ j = 7 := by omega
      rcases this with rfl | rfl | rfl | rfl | rfl | rfl | rfl | rfl <;> simp only [Nat.reducePow, Nat.reduceMod] <;> omega
    · obtain ⟨i, rfl⟩ : ∃ i, j = 8 + i := ⟨j - 8, by omega⟩
      rw [bitAt_cons, bitAt_leB n (x / 256) i (by omega), Nat.div_div_eq_div_mul, Nat.pow_add]
theorem through_le4 (x : Nat) (hx : x < 4294967296) : through 0#32 (Num.leB x 4) = steps 32 (BitVec.ofNat 32 x) := by
  rw [through_feed, Num.leB_length, feed_congr 0#32 _ (fun i => x / 2 ^ i % 2) (8 * 4) (fun j hj => bitAt_leB 4 x j hj), feed_mask x 32 (Nat.le_refl _), Nat.mod_eq_of_lt (by omega)]
theorem more_same (s : BitVec 32) {a b : List UInt8} (hl : a.length = b.length) (h : more s a = more s b) : more 0#32 a = more 0#32 b := by
  unfold more at h ⊢
  have h2 := congrArg (fun x => ~~~ x) h
  simp only [BitVec.not_not] at h2
  rw [through_eq (~~~ s) a, through_eq (~~~ s) b, hl] at h2
  have h3 := congrArg (fun x => Z b.length (~~~ s) ^^^ x) h2
  simp only [← BitVec.xor_assoc, BitVec.xor_self, BitVec.zero_xor] at h3
  rw [through_eq (~~~ 0#32) a, through_eq (~~~ 0#32) b, hl, h3]
theorem chg_app (p b : List UInt8) (o : Nat) (m : List UInt8) : ∀ i, chg (p ++ b) (p.length + o) m i = p ++ chg b o m i
  | 0 => rfl
  | i + 1 => by
    have e : p.length + o + i = p.length + (o + i) := by omega
    have hg : (p ++ chg b o m i).getD (p.length + (o + i)) 0 = (chg b o m i).getD (o + i) 0 := by
      unfold List.getD
      rw [List.getElem?_append_right (by omega), Nat.add_sub_cancel_left]
    rw [chg, chg, chg_app p b o m i, e, hg, List.set_append, if_neg (by omega), Nat.add_sub_cancel_left]
theorem head_same (m : Nat) {b b' : List UInt8} (h : b.length = b'.length) : head m b = head m b' := by unfold head; rw [h]
theorem sum_spoilt (s : BitVec 32) (m : Nat) (b : List UInt8) (o x : Nat) (ho : o + 4 ≤ b.length) (hx : x < 4294967296) (h0 : x ≠ 0) : sum s m (chg b o (Num.leB x 4) 4) ≠ sum s m b := by
  intro h
  unfold sum at h
  rw [head_same m (chg_length b o (Num.leB x 4) 4), ← chg_app] at h
  have h1 := more_same s (by rw [chg_length]) h
  have h2 := chg_sum (head m b ++ b) ((head m b).length + o) (Num.leB x 4) (by rw [Num.leB_length, List.length_append]; omega)
  rw [Num.leB_length, h1, through_le4 x hx] at h2
  generalize more 0#32 (head m b ++ b) = r at h2
  have h3 := congrArg (fun y => r ^^^ y) h2
  simp only [BitVec.xor_self] at h3
  rw [← BitVec.xor_assoc, BitVec.xor_self, BitVec.zero_xor] at h3
  have h4 := steps_zero_of _ _ (steps_zero_of _ _ h3.symm)
  have h5 : (BitVec.ofNat 32 x).toNat = 0 := by rw [h4]; rfl
  rw [BitVec.toNat_ofNat, Nat.mod_eq_of_lt (by omega)] at h5
  exact h0 h5
theorem pc_chg (m : Nat) (b : List UInt8) (t : BitVec 32) (o : Nat) (x : List UInt8) (i : Nat) : chg (pc m b t) (7 + o) x i = pc m (chg b o x i) t := by
  have e : ∀ b, pc m b t = (head m b ++ Num.leB t.toNat 4) ++ b := fun b => by unfold pc; rw [List.append_assoc]
  have hl : (head m b ++ Num.leB t.toNat 4).length = 7 := by rw [List.length_append, head_length, Num.leB_length]
  rw [e b, e (chg b o x i), head_same m (chg_length b o x i), ← chg_app, hl]
theorem join_bad {i m : Nat} {s t : BitVec 32} {out b : List UInt8} {xs : List (List UInt8)} (hm : m ≤ 3) (hb : b.length < 65536) (hi : m % 2 = 1 ↔ i = 0) (h : sum s m b ≠ t) :
    joinF i s out (pc m b t :: xs) = ([], 0, 4) := by
  rw [joinF, ok_pc hm hb, mk_pc hm, body_pc, want_pc, if_neg (fun h => h.elim (fun h => by cases h) (fun h => h hi)), if_pos h]
theorem join_spoilt (room : Nat) (h8 : 8 ≤ room) (h9 : room ≤ 65535) (o x : Nat) (hx : x < 4294967296) (h0 : x ≠ 0) : ∀ (n : Nat) (b : List UInt8), b.length ≤ n → ∀ (i mark : Nat) (s : BitVec 32) (out : List UInt8) (k : Nat) (y : List UInt8), mark ≤ 1 → (mark = 1 ↔ i = 0) → (cutF room mark s b)[k]? = some y → 7 + o + 4 ≤ y.length →
    joinF i s out ((cutF room mark s b).set k (chg y (7 + o) (Num.leB x 4) 4)) = ([], 0, 4)
  | n, b, hn, i, mark, s, out, k, y, hm, hi, hk, hy => by
    by_cases h : 7 < room ∧ room - 7 < b.length
    · rw [cutF_more h] at hk ⊢
      have hl : (b.take (room - 7)).length < 65536 := by rw [List.length_take]; omega
      match k, hk with
      | 0, hk =>
        rw [List.getElem?_cons_zero] at hk
        injection hk with hk
        subst hk
        rw [pc_length] at hy
        rw [List.set_cons_zero, pc_chg]
        exact join_bad (by omega) (by rw [chg_length]; exact hl) (by omega) (sum_spoilt s mark _ o x (by omega) hx h0)
      | k + 1, hk =>
        rw [List.getElem?_cons_succ] at hk
        rw [List.set_cons_succ, join_pc (by omega) hl (by omega), if_neg (by omega)]
        match n, hn with
        | 0, hn => exact absurd hn (by omega)
        | n + 1, hn => exact join_spoilt room h8 h9 o x hx h0 n (b.drop (room - 7)) (by rw [List.length_drop]; omega) (i + 1) 0 _ _ k y (by omega) (by omega) hk hy
    · rw [cutF_last h] at hk ⊢
      match k, hk with
      | 0, hk =>
        rw [List.getElem?_cons_zero] at hk
        injection hk with hk
        subst hk
        rw [pc_length] at hy
        rw [List.set_cons_zero, pc_chg]
        exact join_bad (by omega) (by rw [chg_length]; omega) (by omega) (sum_spoilt s _ _ o x (by omega) hx h0)
      | k + 1, hk => cases hk
theorem cutF_len (room : Nat) (h8 : 8 ≤ room) : ∀ (n : Nat) (b : List UInt8), b.length ≤ n → ∀ (mark : Nat) (s : BitVec 32), (cutF room mark s b).length ≤ b.length + 1
  | n, b, hn, mark, s => by
    by_cases h : 7 < room ∧ room - 7 < b.length
    · rw [cutF_more h, List.length_cons]
      match n, hn with
      | 0, hn => exact absurd hn (by omega)
      | n + 1, hn =>
        have := cutF_len room h8 n (b.drop (room - 7)) (by rw [List.length_drop]; omega) 0 (sum s mark (b.take (room - 7)))
        rw [List.length_drop] at this
        omega
    · rw [cutF_last h]
      simp
theorem mask_byte (m k : Nat) (h : k < 4) : (Num.leB m 4).getD k 0 = UInt8.ofNat (m / 256 ^ k) := by
  have : k = 0 ∨ k = 1 ∨ k = 2 ∨ k = 3 := by omega
  rcases this with rfl | rfl | rfl | rfl <;> simp [leB_cons, leB_nil, Nat.div_div_eq_div_mul]
end Frm
