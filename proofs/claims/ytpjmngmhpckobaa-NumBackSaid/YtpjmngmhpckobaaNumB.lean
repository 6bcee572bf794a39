/- Items put one behind the other, in plain Lean; and what the inner functions of the law NumBack do. -/
import Derived.Test.YtpjmngmhpckobaaNumL1
import Derived.Test.YtpjmngmhpckobaaRowsK
set_option linter.unusedVariables false
set_option linter.unusedSimpArgs false
set_option maxRecDepth 40000
namespace Num
structure It where
  width : Int
  n : Nat
  s : ByteArray
def bytesOf (s : ByteArray) : List UInt8 := s.data.toList
def enc1 (b : List UInt8) (x : It) : List UInt8 :=
  if 1 ≤ x.width ∧ x.width ≤ 8 then b ++ leB x.n x.width.toNat else if x.width = 0 then b ++ vb x.n else b ++ (vb x.s.size ++ bytesOf x.s)
def encTo (l : List It) : Nat → List UInt8
  | 0 => []
  | k + 1 => enc1 (encTo l k) (l.getD k ⟨0, 0, ByteArray.empty⟩)
def one (x : It) : List UInt8 := enc1 [] x
theorem enc1_eq (b : List UInt8) (x : It) : enc1 b x = b ++ one x := by
  unfold one enc1
  split
  · simp
  · split <;> simp
theorem encTo_succ (l : List It) (k : Nat) : encTo l (k + 1) = encTo l k ++ one (l.getD k ⟨0, 0, ByteArray.empty⟩) := enc1_eq _ _
theorem encTo_split (l : List It) (k n : Nat) (h : k ≤ n) : ∃ r, encTo l n = encTo l k ++ r := by
  induction n with
  | zero =>
    obtain rfl : k = 0 := by omega
    exact ⟨[], by simp⟩
  | succ n ih =>
    by_cases e : k = n + 1
    · subst e
      exact ⟨[], by simp⟩
    · obtain ⟨r, hr⟩ := ih (by omega)
      exact ⟨r ++ one (l.getD n ⟨0, 0, ByteArray.empty⟩), by rw [encTo_succ, hr, List.append_assoc]⟩
/-- Of the whole there stands at place k what the item makes, and something behind it. -/
theorem encTo_at (l : List It) (k : Nat) (h : k < l.length) : ∃ r, encTo l l.length = encTo l k ++ (one l[k] ++ r) := by
  obtain ⟨r, hr⟩ := encTo_split l (k + 1) l.length h
  refine ⟨r, ?_⟩
  rw [hr, encTo_succ, List.append_assoc]
  simp [List.getD, List.getElem?_eq_getElem h]
theorem one_len (x : It) (h : x.s.size ≤ 3000) : (one x).length ≤ 3010 := by
  unfold one enc1
  have h1 := varB_length 9 x.n
  have h2 := varB_length 9 x.s.size
  have h3 : (bytesOf x.s).length = x.s.size := Array.length_toList
  have h4 : (vb x.n).length ≤ 10 := h1.2
  have h5 : (vb x.s.size).length ≤ 10 := h2.2
  split
  · simp [leB_length]; omega
  · split
    · simp; omega
    · simp; omega
theorem encTo_len (l : List It) (h : ∀ x ∈ l, x.s.size ≤ 3000) : ∀ k, (encTo l k).length ≤ k * 3010
  | 0 => by simp [encTo]
  | k + 1 => by
    have ih := encTo_len l h k
    rw [encTo_succ, List.length_append]
    have : (one (l.getD k ⟨0, 0, ByteArray.empty⟩)).length ≤ 3010 := by
      by_cases hk : k < l.length
      · have e : l.getD k ⟨0, 0, ByteArray.empty⟩ = l[k] := by simp [List.getD, List.getElem?_eq_getElem hk]
        rw [e]
        exact one_len _ (h _ (List.getElem_mem hk))
      · have e : l.getD k ⟨0, 0, ByteArray.empty⟩ = ⟨0, 0, ByteArray.empty⟩ := by simp [List.getD, List.getElem?_eq_none (by omega : l.length ≤ k)]
        rw [e]
        exact one_len _ (by decide)
    omega
/-- The reading of few bytes at a place where a number was put. -/
theorem var_at (b r : List UInt8) (n : Nat) (hn : n < 18446744073709551616) : var (b ++ (vb n ++ r)) (b.length : Int) = (n, ((b ++ vb n).length : Int), 0) := by
  unfold var
  rw [if_neg (by simp; omega), Int.toNat_natCast, List.drop_left, rv_vb n hn r]
  simp
theorem part_at (b r s : List UInt8) (hs : s.length < 9223372036854775808) : part (b ++ ((vb s.length ++ s) ++ r)) (b.length : Int) (s.length : Int) = (s, ((b ++ (vb s.length ++ s)).length : Int), 0) := by
  unfold part
  rw [List.append_assoc (vb s.length), var_at b (s ++ r) s.length (by omega)]
  simp only
  rw [if_neg (by simp), if_neg (by omega), Int.toNat_natCast, if_neg (by simp; omega)]
  refine Prod.ext ?_ (Prod.ext ?_ rfl)
  · show ((b ++ (vb s.length ++ (s ++ r))).drop (b ++ vb s.length).length).take s.length = s
    rw [← List.append_assoc b, List.drop_left, List.take_left]
  · show ((b ++ vb s.length).length : Int) + (s.length : Int) = _
    simp
    omega
/-- what few tells -/
def left (l : List It) : Nat → Int
  | 0 => 2000
  | k + 1 => left l k - min ((l.getD k ⟨0, 0, ByteArray.empty⟩).s.size : Int) 3000
def few (l : List It) : Bool := decide (l.length ≤ 100) && decide (0 ≤ left l (min l.length 100))
theorem left_mono (l : List It) (k n : Nat) (h : k ≤ n) : left l n ≤ left l k := by
  induction n with
  | zero =>
    obtain rfl : k = 0 := by omega
    exact Int.le_refl _
  | succ n ih =>
    by_cases e : k = n + 1
    · subst e
      exact Int.le_refl _
    · have := ih (by omega)
      rw [left]
      omega
theorem left_le (l : List It) : ∀ k, left l k ≤ 2000 ∧ 2000 - 3000 * (k : Int) ≤ left l k
  | 0 => by simp [left]
  | k + 1 => by
    have := left_le l k
    rw [left]
    omega
theorem few_size (l : List It) (h : few l = true) : l.length ≤ 100 ∧ ∀ x ∈ l, x.s.size ≤ 2000 := by
  unfold few at h
  simp only [Bool.and_eq_true, decide_eq_true_eq] at h
  obtain ⟨h1, h2⟩ := h
  rw [Nat.min_eq_left h1] at h2
  refine ⟨h1, fun x hx => ?_⟩
  obtain ⟨i, hi, rfl⟩ := List.getElem_of_mem hx
  have h3 := left_mono l (i + 1) l.length hi
  have h4 := (left_le l i).1
  rw [left] at h3
  have e : l.getD i ⟨0, 0, ByteArray.empty⟩ = l[i] := by simp [List.getD, List.getElem?_eq_getElem hi]
  rw [e] at h3
  omega
end Num
namespace Go.Proofs.Ytpjmngmhpckobaa
open Go.RowKit Cib
/-- An item's cells. -/
def itRow (x : Num.It) : List Value := [.int .i64 x.width, .int .u64 (x.n : Int), .string x.s]
theorem itRow_len (l : List Num.It) : ∀ r ∈ l.map itRow, r.length = 3 := by
  intro r hr
  obtain ⟨x, _, rfl⟩ := List.mem_map.1 hr
  rfl
theorem it_at {w : World} {B : Nat} {A : Option Addr} {l : List Num.It} (h : Rd w B A (l.map itRow).flatten) {i : Nat} (hi : i < l.length) :
    ∃ b off, A = some ⟨b, off, none⟩ ∧ b < B ∧ w.cell? ⟨b, off + i * 3, none⟩ = some (.int .i64 (l[i]).width) ∧ w.cell? ⟨b, off + i * 3 + 1, none⟩ = some (.int .u64 ((l[i]).n : Int)) ∧ w.cell? ⟨b, off + i * 3 + 2, none⟩ = some (.string (l[i]).s) := by
  obtain ⟨b, off, e, hb, hc⟩ := h.fieldAt (itRow_len l) (i := i) (by simpa using hi) (by decide)
  refine ⟨b, off, e, hb, ?_, ?_, ?_⟩
  · exact hc 0 _ (by simp [itRow])
  · exact hc 1 _ (by simp [itRow])
  · exact hc 2 _ (by simp [itRow])

theorem lawFew (A : Option Addr) (cap : Nat) (l : List Num.It) (w : World) (B : Nat) (h : Rd w B A (l.map itRow).flatten) {len : Nat} (hn : l.length = len) (hl : len ≤ maxLen) (hs : ∀ x ∈ l, x.s.size ≤ maxLen) :
    Calls Try.prog 24 #[.slice A len cap] w fun e w' => e = .returned (.bool (Num.few l)) ∧ w = w' := by
  subst hn
  unfold maxLen at hl
  have HS := Lib.hid hs
  clear hs
  go_enter Try.func24, Try.ntmps24
  go_wp2
  go_loop [3, 4] (fun v i => ∃ k : Nat, k ≤ l.length ∧ k ≤ 100 ∧ i = .int .i64 k ∧ v = .int .i64 (Num.left l k)) (fun _ i => 100 - (intOf i).toNat)
  case atStart => exact ⟨0, Nat.zero_le _, by omega, rfl, rfl⟩
  case round =>
    obtain ⟨k, hk, hk1, rfl, rfl⟩ := hrel
    have hle := Num.left_le l k
    obtain ⟨hle1, hle2⟩ := hle
    by_cases hlt : k < l.length ∧ k < 100
    · obtain ⟨hlt1, hlt2⟩ := hlt
      obtain ⟨bb, off, rfl, _, hc0, hc1, hc2⟩ := it_at h hlt1
      have hsz := HS.out _ (List.getElem_mem hlt1)
      have HL : Hid (Num.left l (k + 1) = Num.left l k - min ((l[k]).s.size : Int) 3000) := by
        unfold Hid
        rw [Num.left]
        simp [List.getD, List.getElem?_eq_getElem hlt1]
      generalize l[k] = x at *
      unfold maxLen at hsz
      generalize Num.left l k = L at *
      go_wp2
      all_goals
        refine ⟨⟨k + 1, by omega, by omega, by go_num, int_eq ?_⟩, by simp [intOf]; omega⟩
        rw [HL.out]
        omega
    · have hend : Hid (Num.few l = (decide (l.length ≤ 100) && decide (0 ≤ Num.left l k))) := by
        unfold Hid Num.few
        rw [show min l.length 100 = k from by omega]
      by_cases h1 : k < l.length
      · have h2 : ¬ k < 100 := by omega
        have hf : decide (l.length ≤ 100) = false := by simp; omega
        clear hlt
        go_wp2
        go_ret
        exact ⟨ret_eq (bool_eq (by rw [hend.out, hf]; simp)), rfl⟩
      · have hf : decide (l.length ≤ 100) = true := by simp; omega
        clear hlt
        go_wp2
        go_ret
        exact ⟨ret_eq (bool_eq (by rw [hend.out, hf]; simp)), rfl⟩

theorem lawLow (n : Nat) (wd : Nat) (w : World) (h1 : 1 ≤ wd) (h8 : wd ≤ 8) (hn : n < 18446744073709551616) :
    Calls Try.prog 25 #[.int .u64 (n : Int), .int .i64 (wd : Int)] w fun e w' => e = .returned (.int .u64 ((n % 256 ^ wd : Nat) : Int)) ∧ w = w' := by
  by_cases e : wd = 8
  · subst e
    have HE : Hid (n % 256 ^ 8 = n) := Nat.mod_eq_of_lt hn
    go_enter Try.func25, Try.ntmps25
    go_wp2
    go_ret
    exact ⟨ret_eq (nat_eq HE.out.symm), rfl⟩
  · have h : ∀ k : Fin 8, IntKind.u64.wrap ((2 : Int) ^ (8 * k.val)) = ((256 ^ k.val : Nat) : Int) ∧ 0 < 256 ^ k.val ∧ 256 ^ k.val ≤ 72057594037927936 := by decide
    obtain ⟨e1, e2, e3⟩ := h ⟨wd, by omega⟩
    simp only at e1 e2 e3
    have HP := Lib.hid (rfl : 256 ^ wd = 256 ^ wd)
    have h7 : wd ≤ 7 := by omega
    generalize hp : 256 ^ wd = p at *
    clear h e hp HP h8
    go_enter Try.func25, Try.ntmps25
    go_wp2
    go_ret
    exact ⟨ret_eq (int_eq (by simp)), rfl⟩
end Go.Proofs.Ytpjmngmhpckobaa
