/- Texts in pieces, in plain Lean: cut, put together, torn, spoilt. No program. -/
import Derived.Test.YtmabmhiombnngaaCrcQ
import Derived.Test.YtmabmhiombnngaaNumP
set_option linter.unusedVariables false
set_option linter.unusedSimpArgs false
namespace Frm
/-- Marks and length of a piece. -/
def head (mark : Nat) (b : List UInt8) : List UInt8 := UInt8.ofNat mark :: Num.leB b.length 2
/-- A piece's sum, behind the one ahead. -/
def sum (s : BitVec 32) (mark : Nat) (b : List UInt8) : BitVec 32 := Crc.more s (head mark b ++ b)
/-- A piece. -/
def pc (mark : Nat) (b : List UInt8) (s : BitVec 32) : List UInt8 := head mark b ++ (Num.leB s.toNat 4 ++ b)
theorem head_length (m : Nat) (b : List UInt8) : (head m b).length = 3 := by simp [head, Num.leB_length]
theorem pc_length (m : Nat) (b : List UInt8) (s : BitVec 32) : (pc m b s).length = 7 + b.length := by simp [pc, head_length, Num.leB_length]; omega
/-- A text cut into pieces. -/
def cutF (room : Nat) (mark : Nat) (s : BitVec 32) (b : List UInt8) : List (List UInt8) :=
  if h : 7 < room ∧ room - 7 < b.length then
    pc mark (b.take (room - 7)) (sum s mark (b.take (room - 7))) :: cutF room 0 (sum s mark (b.take (room - 7))) (b.drop (room - 7))
  else [pc (mark + 2) b (sum s (mark + 2) b)]
termination_by b.length
decreasing_by rw [List.length_drop]; omega
theorem cutF_more {room mark : Nat} {s : BitVec 32} {b : List UInt8} (h : 7 < room ∧ room - 7 < b.length) : cutF room mark s b = pc mark (b.take (room - 7)) (sum s mark (b.take (room - 7))) :: cutF room 0 (sum s mark (b.take (room - 7))) (b.drop (room - 7)) := by
  rw [cutF, dif_pos h]
theorem cutF_last {room mark : Nat} {s : BitVec 32} {b : List UInt8} (h : ¬ (7 < room ∧ room - 7 < b.length)) : cutF room mark s b = [pc (mark + 2) b (sum s (mark + 2) b)] := by
  rw [cutF, dif_neg h]
theorem cutF_pos (room mark : Nat) (s : BitVec 32) (b : List UInt8) : 0 < (cutF room mark s b).length := by
  by_cases h : 7 < room ∧ room - 7 < b.length
  · rw [cutF_more h]; simp
  · rw [cutF_last h]; simp
/-! What stands in a piece. -/
def mk (x : List UInt8) : Nat := (x.getD 0 0).toNat
def len (x : List UInt8) : Nat := Num.leN ((x.drop 1).take 2)
def want (x : List UInt8) : BitVec 32 := BitVec.ofNat 32 (Num.leN ((x.drop 3).take 4))
def body (x : List UInt8) : List UInt8 := x.drop 7
def ok (x : List UInt8) : Bool := decide (7 ≤ x.length ∧ len x = x.length - 7 ∧ mk x ≤ 3)
section
variable {m : Nat} {b : List UInt8} {s : BitVec 32}
theorem mk_pc (hm : m ≤ 3) : mk (pc m b s) = m := by
  show (UInt8.ofNat m).toNat = m
  rw [UInt8.toNat_ofNat', Nat.mod_eq_of_lt (by omega)]
theorem len_pc (hb : b.length < 65536) : len (pc m b s) = b.length := by
  show Num.leN ((Num.leB b.length 2 ++ (Num.leB s.toNat 4 ++ b)).take 2) = _
  rw [List.take_append_of_le_length (by rw [Num.leB_length]; exact Nat.le_refl _), List.take_of_length_le (by rw [Num.leB_length]; exact Nat.le_refl _), Num.leN_leB, Nat.mod_eq_of_lt (by omega)]
theorem drop3_pc : (pc m b s).drop 3 = Num.leB s.toNat 4 ++ b := by
  unfold pc
  rw [List.drop_append_of_le_length (by rw [head_length]; exact Nat.le_refl _), List.drop_of_length_le (by rw [head_length]; exact Nat.le_refl _), List.nil_append]
theorem want_pc : want (pc m b s) = s := by
  unfold want
  rw [drop3_pc, List.take_append_of_le_length (by rw [Num.leB_length]; exact Nat.le_refl _), List.take_of_length_le (by rw [Num.leB_length]; exact Nat.le_refl _), Num.leN_leB, Nat.mod_eq_of_lt s.isLt, BitVec.ofNat_toNat, BitVec.setWidth_eq]
theorem body_pc : body (pc m b s) = b := by
  show (pc m b s).drop (3 + 4) = b
  rw [← List.drop_drop, drop3_pc, List.drop_append_of_le_length (by rw [Num.leB_length]; exact Nat.le_refl _), List.drop_of_length_le (by rw [Num.leB_length]; exact Nat.le_refl _), List.nil_append]
theorem ok_pc (hm : m ≤ 3) (hb : b.length < 65536) : ok (pc m b s) = true := by
  unfold ok
  rw [decide_eq_true_iff, len_pc hb, mk_pc hm, pc_length]
  omega
end
/-- The first text's pieces put together, from piece i on. -/
def joinF (i : Nat) (s : BitVec 32) (out : List UInt8) : List (List UInt8) → List UInt8 × Nat × Nat
  | [] => ([], 0, 170)
  | x :: xs =>
    if ok x = false ∨ ¬ (mk x % 2 = 1 ↔ i = 0) then ([], 0, 3)
    else if sum s (mk x) (body x) ≠ want x then ([], 0, 4)
    else if 2 ≤ mk x then (out ++ body x, i + 1, 0)
    else joinF (i + 1) (want x) (out ++ body x) xs
theorem join_pc {i m : Nat} {s : BitVec 32} {out b : List UInt8} {xs : List (List UInt8)} (hm : m ≤ 3) (hb : b.length < 65536) (hi : m % 2 = 1 ↔ i = 0) :
    joinF i s out (pc m b (sum s m b) :: xs) = if 2 ≤ m then (out ++ b, i + 1, 0) else joinF (i + 1) (sum s m b) (out ++ b) xs := by
  rw [joinF, ok_pc hm hb, mk_pc hm, body_pc, want_pc, if_neg (fun h => h.elim (fun h => by cases h) (fun h => h hi)), if_neg (fun h => h rfl)]
/-- What was cut comes together again, whatever stands behind. -/
theorem join_cut (room : Nat) (h8 : 8 ≤ room) (h9 : room ≤ 65535) : ∀ (n : Nat) (b : List UInt8), b.length ≤ n → ∀ (i mark : Nat) (s : BitVec 32) (out : List UInt8) (rest : List (List UInt8)), mark ≤ 1 → (mark = 1 ↔ i = 0) →
    joinF i s out (cutF room mark s b ++ rest) = (out ++ b, i + (cutF room mark s b).length, 0)
  | n, b, hn, i, mark, s, out, rest, hm, hi => by
    by_cases h : 7 < room ∧ room - 7 < b.length
    · rw [cutF_more h, List.cons_append, join_pc (by omega) (by rw [List.length_take]; omega) (by omega), if_neg (by omega)]
      match n, hn with
      | 0, hn => exact absurd hn (by omega)
      | n + 1, hn =>
        rw [join_cut room h8 h9 n (b.drop (room - 7)) (by rw [List.length_drop]; omega) (i + 1) 0 _ _ rest (by omega) (by omega), List.append_assoc, List.take_append_drop, List.length_cons]
        congr 2
        omega
    · rw [cutF_last h, List.cons_append, join_pc (by omega) (by omega) (by omega), if_pos (by omega)]
      rfl
/-- Some of them, but not all, are torn. -/
theorem join_part (room : Nat) (h8 : 8 ≤ room) (h9 : room ≤ 65535) : ∀ (n : Nat) (b : List UInt8), b.length ≤ n → ∀ (i mark : Nat) (s : BitVec 32) (out : List UInt8) (k : Nat), mark ≤ 1 → (mark = 1 ↔ i = 0) → k < (cutF room mark s b).length →
    joinF i s out ((cutF room mark s b).take k) = ([], 0, 170)
  | n, b, hn, i, mark, s, out, 0, hm, hi, hk => rfl
  | n, b, hn, i, mark, s, out, k + 1, hm, hi, hk => by
    by_cases h : 7 < room ∧ room - 7 < b.length
    · rw [cutF_more h] at hk ⊢
      rw [List.take_succ_cons, join_pc (by omega) (by rw [List.length_take]; omega) (by omega), if_neg (by omega)]
      match n, hn with
      | 0, hn => exact absurd hn (by omega)
      | n + 1, hn => exact join_part room h8 h9 n (b.drop (room - 7)) (by rw [List.length_drop]; omega) (i + 1) 0 _ _ k (by omega) (by omega) (by simpa using hk)
    · rw [cutF_last h] at hk
      simp at hk
/-- How long the pieces are. -/
theorem cut_fits (room : Nat) (h8 : 8 ≤ room) : ∀ (n : Nat) (b : List UInt8), b.length ≤ n → ∀ (mark : Nat) (s : BitVec 32) (k : Nat) (hk : k < (cutF room mark s b).length), ((cutF room mark s b)[k]).length ≤ room ∧ (k + 1 < (cutF room mark s b).length → ((cutF room mark s b)[k]).length = room)
  | n, b, hn, mark, s, k, hk => by
    by_cases h : 7 < room ∧ room - 7 < b.length
    · have e := cutF_more (mark := mark) (s := s) h
      match k, hk with
      | 0, hk =>
        have e0 : (cutF room mark s b)[0] = pc mark (b.take (room - 7)) (sum s mark (b.take (room - 7))) := by simp only [e, List.getElem_cons_zero]
        rw [e0, pc_length, List.length_take]
        omega
      | k + 1, hk =>
        have hk' : k < (cutF room 0 (sum s mark (b.take (room - 7))) (b.drop (room - 7))).length := by
          rw [e] at hk
          simpa using hk
        have e1 : (cutF room mark s b)[k + 1] = (cutF room 0 (sum s mark (b.take (room - 7))) (b.drop (room - 7)))[k] := by simp only [e, List.getElem_cons_succ]
        have e2 : (cutF room mark s b).length = (cutF room 0 (sum s mark (b.take (room - 7))) (b.drop (room - 7))).length + 1 := by rw [e, List.length_cons]
        rw [e1, e2]
        match n, hn with
        | 0, hn => exact absurd hn (by omega)
        | n + 1, hn =>
          have := cut_fits room h8 n (b.drop (room - 7)) (by rw [List.length_drop]; omega) 0 (sum s mark (b.take (room - 7))) k hk'
          exact ⟨this.1, fun h => this.2 (by omega)⟩
    · have e := cutF_last (mark := mark) (s := s) h
      have hk0 : k = 0 := by rw [e] at hk; simpa using hk
      subst hk0
      have e0 : (cutF room mark s b)[0] = pc (mark + 2) b (sum s (mark + 2) b) := by simp only [e, List.getElem_cons_zero]
      rw [e0, pc_length, e]
      exact ⟨by omega, fun h => by simp at h⟩
/-- What Join answers: at most as many pieces as there are, and one at least where it answers. -/
theorem joinF_le : ∀ (l : List (List UInt8)) (i : Nat) (s : BitVec 32) (out : List UInt8), (joinF i s out l).2.2 = 0 → i < (joinF i s out l).2.1 ∧ (joinF i s out l).2.1 ≤ i + l.length
  | [], i, s, out, h => by cases h
  | x :: xs, i, s, out, h => by
    rw [joinF] at h ⊢
    split at h
    · cases h
    · rename_i h1
      rw [if_neg h1]
      split at h
      · cases h
      · rename_i h2
        rw [if_neg h2]
        split at h
        · rename_i h3
          rw [if_pos h3]
          simp only [List.length_cons]
          omega
        · rename_i h3
          rw [if_neg h3]
          have := joinF_le xs (i + 1) _ _ h
          simp only [List.length_cons]
          omega
theorem joinF_err : ∀ (l : List (List UInt8)) (i : Nat) (s : BitVec 32) (out : List UInt8), (joinF i s out l).2.2 ≠ 0 → (joinF i s out l).1 = [] ∧ (joinF i s out l).2.1 = 0
  | [], i, s, out, h => ⟨rfl, rfl⟩
  | x :: xs, i, s, out, h => by
    rw [joinF] at h ⊢
    split
    · exact ⟨rfl, rfl⟩
    · rename_i h1
      rw [if_neg h1] at h
      split
      · exact ⟨rfl, rfl⟩
      · rename_i h2
        rw [if_neg h2] at h
        split
        · rename_i h3
          rw [if_pos h3] at h
          exact absurd rfl h
        · rename_i h3
          rw [if_neg h3] at h
          exact joinF_err xs _ _ _ h
/-- All texts' pieces put together. -/
def allF : Nat → List (List UInt8) → List (List UInt8) × Nat
  | 0, _ => ([], 0)
  | f + 1, l => if (joinF 0 0#32 [] l).2.2 = 0 then ((joinF 0 0#32 [] l).1 :: (allF f (l.drop (joinF 0 0#32 [] l).2.1)).1, (joinF 0 0#32 [] l).2.1 + (allF f (l.drop (joinF 0 0#32 [] l).2.1)).2) else ([], 0)
theorem allF_fuel : ∀ (f g : Nat) (l : List (List UInt8)), l.length < f → l.length < g → allF f l = allF g l
  | f + 1, g + 1, l, hf, hg => by
    rw [allF, allF]
    split
    · rename_i h
      have := joinF_le l 0 0#32 [] h
      rw [allF_fuel f g _ (by rw [List.length_drop]; omega) (by rw [List.length_drop]; omega)]
    · rfl
/-- All, of as many as there are. -/
def all (l : List (List UInt8)) : List (List UInt8) × Nat := allF (l.length + 1) l
theorem all_ok {l : List (List UInt8)} {t : List UInt8} {n : Nat} (h : joinF 0 0#32 [] l = (t, n, 0)) : all l = (t :: (all (l.drop n)).1, n + (all (l.drop n)).2) := by
  have := joinF_le l 0 0#32 [] (by rw [h])
  rw [h] at this
  simp only at this
  unfold all
  rw [allF, h, if_pos rfl]
  simp only
  rw [allF_fuel l.length ((l.drop n).length + 1) _ (by rw [List.length_drop]; omega) (by omega)]
theorem all_no {l : List (List UInt8)} (h : (joinF 0 0#32 [] l).2.2 ≠ 0) : all l = ([], 0) := by
  unfold all
  rw [allF, if_neg h]
/-! Texts' pieces, one behind the other, cut anywhere. -/
def flatC (room : Nat) (Ts : List (List UInt8)) : List (List UInt8) := Ts.flatMap (cutF room 1 0#32)
/-- How many texts are whole, and how many pieces they have. -/
def whole (room : Nat) : List (List UInt8) → Nat → Nat × Nat
  | [], _ => (0, 0)
  | T :: Ts, k => if (cutF room 1 0#32 T).length ≤ k then ((whole room Ts (k - (cutF room 1 0#32 T).length)).1 + 1, (cutF room 1 0#32 T).length + (whole room Ts (k - (cutF room 1 0#32 T).length)).2) else (0, 0)
theorem torn_all (room : Nat) (h8 : 8 ≤ room) (h9 : room ≤ 65535) : ∀ (Ts : List (List UInt8)) (k : Nat), all ((flatC room Ts).take k) = (Ts.take (whole room Ts k).1, (whole room Ts k).2) ∧ (joinF 0 0#32 [] (((flatC room Ts).take k).drop (whole room Ts k).2)).2.2 = 170
  | [], k => by
    have e : (flatC room []).take k = [] := by simp [flatC]
    rw [e]
    exact ⟨rfl, rfl⟩
  | T :: Ts, k => by
    have e : flatC room (T :: Ts) = cutF room 1 0#32 T ++ flatC room Ts := by simp [flatC]
    rw [e, whole]
    by_cases hk : (cutF room 1 0#32 T).length ≤ k
    · rw [if_pos hk, List.take_append, List.take_of_length_le hk]
      have ih := torn_all room h8 h9 Ts (k - (cutF room 1 0#32 T).length)
      have hj := join_cut room h8 h9 T.length T (Nat.le_refl _) 0 1 0#32 [] ((flatC room Ts).take (k - (cutF room 1 0#32 T).length)) (by omega) (by omega)
      rw [List.nil_append, Nat.zero_add] at hj
      refine ⟨?_, ?_⟩
      · rw [all_ok hj, List.drop_left, ih.1]
        simp only [List.take_succ_cons]
      · rw [← List.drop_drop, List.drop_left]
        exact ih.2
    · rw [if_neg hk, List.take_append, show k - (cutF room 1 0#32 T).length = 0 from by omega, List.take_zero, List.append_nil]
      have hj := join_part room h8 h9 T.length T (Nat.le_refl _) 0 1 0#32 [] k (by omega) (by omega) (by omega)
      refine ⟨?_, ?_⟩
      · rw [all_no (by rw [hj]; decide)]
        rfl
      · rw [List.drop_zero, hj]
theorem whole_le (room : Nat) : ∀ (Ts : List (List UInt8)) (k : Nat), k ≤ (flatC room Ts).length → (whole room Ts k).2 ≤ k
  | [], k, h => by simp [whole]
  | T :: Ts, k, h => by
    have e : flatC room (T :: Ts) = cutF room 1 0#32 T ++ flatC room Ts := by simp [flatC]
    rw [e, List.length_append] at h
    rw [whole]
    split
    · have := whole_le room Ts (k - (cutF room 1 0#32 T).length) (by omega)
      simp only
      omega
    · simp only
      omega
end Frm
