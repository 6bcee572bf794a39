/- A map of places in plain Lean: its words, what is set, counted and looked for. Nothing about the program. -/
import Derived.Test.YtdhadhhhicnhpaaReg
set_option linter.unusedVariables false
set_option linter.unusedSimpArgs false
namespace Bmp
def wordN : List Bool → Nat
  | [] => 0
  | b :: l => (if b then 1 else 0) + 2 * wordN l
theorem wordN_lt : ∀ l, wordN l < 2 ^ l.length
  | [] => by simp [wordN]
  | b :: l => by
    have := wordN_lt l
    rw [wordN, List.length_cons, Nat.pow_succ]
    split <;> omega
theorem wordN_bit : ∀ (l : List Bool) (i : Nat), wordN l / 2 ^ i % 2 = if l.getD i false then 1 else 0
  | [], i => by simp [wordN]
  | b :: l, 0 => by
    rw [wordN, Nat.pow_zero, Nat.div_one]
    cases b <;> simp <;> omega
  | b :: l, i + 1 => by
    have ih := wordN_bit l i
    have h2 : wordN (b :: l) / 2 ^ (i + 1) = wordN l / 2 ^ i := by
      rw [Nat.pow_succ, Nat.mul_comm, ← Nat.div_div_eq_div_mul]
      congr 1
      rw [wordN]
      split <;> omega
    rw [h2, ih]
    rfl
theorem wordN_full : ∀ l : List Bool, wordN l = 2 ^ l.length - 1 ↔ ∀ b ∈ l, b = true
  | [] => by simp [wordN]
  | b :: l => by
    have ih := wordN_full l
    have hl := wordN_lt l
    rw [wordN, List.length_cons, Nat.pow_succ]
    constructor
    · intro h
      cases b
      · simp at h
        omega
      · simp only [if_true] at h
        have : wordN l = 2 ^ l.length - 1 := by omega
        intro x hx
        rcases List.mem_cons.1 hx with rfl | hx
        · rfl
        · exact ih.1 this x hx
    · intro h
      have h0 := h b (List.mem_cons_self ..)
      subst h0
      have := ih.2 fun x hx => h x (List.mem_cons_of_mem _ hx)
      simp only [if_true]
      omega
theorem xor_two (x y z : Nat) (hx : x < 2) : (x + 2 * y) ^^^ (2 * z) = x + 2 * (y ^^^ z) := by
  have h1 : ((x + 2 * y) ^^^ (2 * z)) / 2 = y ^^^ z := by
    rw [Nat.xor_div_two]
    congr 1 <;> omega
  have h2 : ((x + 2 * y) ^^^ (2 * z)) % 2 = x := by
    have h3 : ((x + 2 * y) ^^^ (2 * z)) % 2 = 1 ↔ ¬ ((x + 2 * y) % 2 = 1 ↔ (2 * z) % 2 = 1) := Nat.xor_mod_two_eq_one
    have h4 : (2 * z) % 2 = 0 := by omega
    have h5 : (x + 2 * y) % 2 = x := by omega
    rw [h4, h5] at h3
    by_cases hx1 : x = 1
    · have := h3.2 (by simp [hx1])
      omega
    · have : ¬ ((x + 2 * y) ^^^ (2 * z)) % 2 = 1 := fun h => h3.1 h (by simp [hx1])
      omega
  omega
theorem xor_one (x y : Nat) (hx : x < 2) : (x + 2 * y) ^^^ 1 = (1 - x) + 2 * y := by
  have h1 : ((x + 2 * y) ^^^ 1) / 2 = y := by
    rw [Nat.xor_div_two, show (1 : Nat) / 2 = 0 from rfl, Nat.xor_zero]
    omega
  have h2 : ((x + 2 * y) ^^^ 1) % 2 = 1 - x := by
    have h3 : ((x + 2 * y) ^^^ 1) % 2 = 1 ↔ ¬ ((x + 2 * y) % 2 = 1 ↔ 1 % 2 = 1) := Nat.xor_mod_two_eq_one
    have h5 : (x + 2 * y) % 2 = x := by omega
    rw [h5] at h3
    by_cases hx1 : x = 1
    · have : ¬ ((x + 2 * y) ^^^ 1) % 2 = 1 := fun h => h3.1 h (by simp [hx1])
      omega
    · have := h3.2 (by simp [hx1])
      omega
  omega
theorem wordN_set : ∀ (l : List Bool) (i : Nat) (b : Bool) (h : i < l.length), l[i] ≠ b → wordN (l.set i b) = wordN l ^^^ 2 ^ i
  | c :: l, 0, b, h, hne => by
    rw [List.set_cons_zero, wordN, wordN, Nat.pow_zero, xor_one _ _ (by split <;> omega)]
    simp at hne
    cases b <;> cases c <;> simp_all
  | c :: l, i + 1, b, h, hne => by
    have ih := wordN_set l i b (by simpa using h) (by simpa using hne)
    rw [List.set_cons_succ, wordN, wordN, ih, Nat.pow_succ, Nat.mul_comm (2 ^ i) 2, xor_two _ _ _ (by split <;> omega)]
/-! ### how many bits are set -/
def popc (n : Nat) : Nat := if h : n = 0 then 0 else n % 2 + popc (n / 2)
decreasing_by omega
theorem popc_zero : popc 0 = 0 := by rw [popc]; rfl
theorem popc_eq (n : Nat) : popc n = n % 2 + popc (n / 2) := by
  by_cases h : n = 0
  · subst h
    rw [Nat.zero_div, popc_zero]
  · rw [popc, dif_neg h]
theorem popc_and (n : Nat) : n ≠ 0 → popc (n &&& (n - 1)) + 1 = popc n ∧ (n &&& (n - 1)) < n := by
  induction n using Nat.strongRecOn with
  | _ n ih =>
    intro h
    have hd : (n &&& (n - 1)) / 2 = n / 2 &&& (n - 1) / 2 := Nat.and_div_two
    have hm : (n &&& (n - 1)) % 2 = 0 := by
      have h1 : (n &&& (n - 1)) % 2 = 1 ↔ n % 2 = 1 ∧ (n - 1) % 2 = 1 := Nat.and_mod_two_eq_one
      omega
    rcases Nat.mod_two_eq_zero_or_one n with e | e
    · have h2 : (n - 1) / 2 = n / 2 - 1 := by omega
      have h3 := ih (n / 2) (by omega) (by omega)
      rw [h2] at hd
      rw [popc_eq (n &&& (n - 1)), popc_eq n, hm, hd, e]
      omega
    · have h2 : (n - 1) / 2 = n / 2 := by omega
      rw [h2, Nat.and_self] at hd
      rw [popc_eq (n &&& (n - 1)), popc_eq n, hm, hd, e]
      omega
theorem popc_le : ∀ (k n : Nat), n < 2 ^ k → popc n ≤ k
  | 0, n, h => by
    obtain rfl : n = 0 := by simpa using h
    rw [popc_zero]
    exact Nat.le_refl _
  | k + 1, n, h => by
    have := popc_le k (n / 2) (by rw [Nat.pow_succ] at h; omega)
    rw [popc_eq]
    omega
theorem popc_wordN : ∀ l, popc (wordN l) = l.count true
  | [] => by rw [wordN, popc_zero]; rfl
  | b :: l => by
    rw [popc_eq, wordN]
    have h1 : ((if b then 1 else 0) + 2 * wordN l) / 2 = wordN l := by split <;> omega
    rw [h1, popc_wordN l]
    cases b <;> simp [List.count_cons] <;> omega
/-! ### the words of a map -/
def word (bs : List Bool) (j : Nat) : Nat := wordN ((bs.drop (64 * j)).take 64)
def words (bs : List Bool) : List Nat := (List.range ((bs.length + 63) / 64)).map (word bs)
theorem words_length (bs : List Bool) : (words bs).length = (bs.length + 63) / 64 := by simp [words]
theorem words_get (bs : List Bool) {j : Nat} (h : j < (words bs).length) : (words bs)[j] = word bs j := by simp [words]
theorem word_lt (bs : List Bool) (j : Nat) : word bs j < 18446744073709551616 := by
  have h := wordN_lt ((bs.drop (64 * j)).take 64)
  have h2 : 2 ^ ((bs.drop (64 * j)).take 64).length ≤ 2 ^ 64 := Nat.pow_le_pow_right (by decide) (by rw [List.length_take]; omega)
  unfold word
  omega
theorem word_has (bs : List Bool) {i : Nat} (h : i < bs.length) : word bs (i / 64) / 2 ^ (i % 64) % 2 = if bs[i] then 1 else 0 := by
  unfold word
  rw [wordN_bit]
  have : ((bs.drop (64 * (i / 64))).take 64).getD (i % 64) false = bs[i] := by
    have h1 : i % 64 < ((bs.drop (64 * (i / 64))).take 64).length := by simp; omega
    rw [List.getD, List.getElem?_eq_getElem h1, Option.getD_some, List.getElem_take, List.getElem_drop]
    congr 1
    omega
  rw [this]
theorem word_full (bs : List Bool) {i : Nat} (h : i < bs.length) (h0 : i % 64 = 0) : word bs (i / 64) = 18446744073709551615 ↔ i + 64 ≤ bs.length ∧ ∀ k, k < 64 → bs.getD (i + k) false = true := by
  have hi : 64 * (i / 64) = i := by omega
  unfold word
  rw [hi]
  by_cases hl : i + 64 ≤ bs.length
  · have h64 : ((bs.drop i).take 64).length = 64 := by simp; omega
    have hf := wordN_full ((bs.drop i).take 64)
    rw [h64] at hf
    rw [show (18446744073709551615 : Nat) = 2 ^ 64 - 1 from rfl, hf]
    constructor
    · intro hb
      refine ⟨hl, fun k hk => ?_⟩
      have := hb ((bs.drop i).take 64)[k] (List.getElem_mem (by omega))
      rw [List.getElem_take, List.getElem_drop] at this
      rw [List.getD, List.getElem?_eq_getElem (by omega), Option.getD_some, this]
    · rintro ⟨_, hb⟩ x hx
      obtain ⟨k, hk, rfl⟩ := List.getElem_of_mem hx
      have := hb k (by omega)
      rw [List.getD, List.getElem?_eq_getElem (by omega), Option.getD_some] at this
      rw [List.getElem_take, List.getElem_drop, this]
  · constructor
    · intro he
      have := wordN_lt ((bs.drop i).take 64)
      have h2 : 2 ^ ((bs.drop i).take 64).length ≤ 2 ^ 63 := Nat.pow_le_pow_right (by decide) (by rw [List.length_take, List.length_drop]; omega)
      omega
    · rintro ⟨h1, _⟩
      omega
theorem words_set (bs : List Bool) {i : Nat} {b : Bool} (h : i < bs.length) (hne : bs[i] ≠ b) : words (bs.set i b) = (words bs).set (i / 64) (word bs (i / 64) ^^^ 2 ^ (i % 64)) := by
  apply List.ext_getElem
  · simp [words_length]
  · intro j h1 h2
    rw [words_get _ h1, List.getElem_set]
    have hj : j < (words bs).length := by simpa [words_length] using h1
    unfold word
    by_cases e : i / 64 = j
    · rw [if_pos e]
      subst e
      rw [List.drop_set, if_neg (by omega), List.take_set]
      have hl : i - 64 * (i / 64) < ((bs.drop (64 * (i / 64))).take 64).length := by simp; omega
      rw [wordN_set _ _ _ hl, show i - 64 * (i / 64) = i % 64 from by omega]
      rw [List.getElem_take, List.getElem_drop]
      have e2 : 64 * (i / 64) + (i - 64 * (i / 64)) = i := by omega
      simp only [e2]
      exact hne
    · rw [if_neg e, words_get _ hj]
      unfold word
      rw [List.drop_set]
      by_cases hlt : i < 64 * j
      · rw [if_pos hlt]
      · rw [if_neg hlt, List.take_set, List.set_eq_of_length_le]
        rw [List.length_take]
        omega
theorem count_step (bs : List Bool) (j : Nat) : (bs.take (64 * (j + 1))).count true = (bs.take (64 * j)).count true + popc (word bs j) := by
  unfold word
  rw [popc_wordN, ← List.count_append, ← List.take_add, Nat.mul_add]
theorem count_all (bs : List Bool) : (bs.take (64 * (words bs).length)).count true = bs.count true := by
  rw [List.take_of_length_le]
  rw [words_length]
  omega
theorem wordN_none : ∀ k, wordN (List.replicate k false) = 0
  | 0 => rfl
  | k + 1 => by rw [List.replicate_succ, wordN, wordN_none k]; rfl
theorem words_none (n : Nat) : words (List.replicate n false) = List.replicate ((n + 63) / 64) 0 := by
  apply List.ext_getElem
  · simp [words_length]
  · intro j h1 h2
    rw [words_get _ h1]
    simp [word, List.drop_replicate, List.take_replicate, wordN_none]
/-- is a place taken? -/
def has (bs : List Bool) (i : Int) : Bool := decide (0 ≤ i ∧ i < bs.length) && bs.getD i.toNat false
theorem has_in {bs : List Bool} {i : Nat} (h : i < bs.length) : has bs (i : Int) = bs[i] := by
  simp [has, h, List.getD, List.getElem?_eq_getElem h]
theorem has_out {bs : List Bool} {i : Int} (h : ¬ (0 ≤ i ∧ i < bs.length)) : has bs i = false := by
  simp only [has, decide_eq_false h, Bool.false_and]
/-- what Set answers and leaves -/
def set (bs : List Bool) (i : Int) (b : Bool) : Bool × List Bool :=
  if 0 ≤ i ∧ i < bs.length ∧ has bs i ≠ b then (true, bs.set i.toNat b) else (false, bs)
theorem set_length (bs : List Bool) (i : Int) (b : Bool) : (set bs i b).2.length = bs.length := by
  unfold set
  split <;> simp
/-- The first place of a run of free ones, from the places that l begins with on. -/
def run (many : Nat) : List Bool → Nat → Nat → Int
  | [], _, _ => -1
  | b :: l, i, side => if b then run many l (i + 1) 0 else if side + 1 = many then (i : Int) - many + 1 else run many l (i + 1) (side + 1)
def runF (bs : List Bool) (from_ many : Int) : Int := if many < 1 then -1 else run many.toNat (bs.drop from_.toNat) from_.toNat 0
def free : List Bool → Nat → List Nat
  | [], _ => []
  | b :: l, i => if b then free l (i + 1) else i :: free l (i + 1)
theorem free_length : ∀ (l : List Bool) (i : Nat), (free l i).length + l.count true = l.length
  | [], _ => rfl
  | b :: l, i => by
    have ih := free_length l (i + 1)
    cases b <;> simp [free, List.count_cons] <;> omega
def leastF (bs : List Bool) (many : Int) : List Nat := if many < 1 ∨ many > bs.length - bs.count true then [] else (free bs 0).take many.toNat
theorem run_end (many : Nat) (bs : List Bool) {i : Nat} (side : Nat) (h : bs.length ≤ i) : run many (bs.drop i) i side = -1 := by
  rw [List.drop_eq_nil_of_le h]
  rfl
theorem run_step (many : Nat) (bs : List Bool) {i : Nat} (side : Nat) (h : i < bs.length) :
    run many (bs.drop i) i side = if bs[i] then run many (bs.drop (i + 1)) (i + 1) 0 else if side + 1 = many then (i : Int) - many + 1 else run many (bs.drop (i + 1)) (i + 1) (side + 1) := by
  rw [List.drop_eq_getElem_cons h, run]
theorem run_trues (many : Nat) (bs : List Bool) (i : Nat) (side : Nat) : ∀ k, i + k ≤ bs.length → (∀ j, j < k → bs.getD (i + j) false = true) →
    run many (bs.drop i) i side = run many (bs.drop (i + k)) (i + k) (if k = 0 then side else 0)
  | 0, _, _ => rfl
  | k + 1, hk, h => by
    have hlt : i + k < bs.length := by omega
    have hb := h k (by omega)
    rw [List.getD, List.getElem?_eq_getElem hlt, Option.getD_some] at hb
    rw [run_trues many bs i side k (by omega) (fun j hj => h j (by omega)), run_step many bs _ hlt, if_pos hb]
    rfl
theorem free_step (bs : List Bool) {i : Nat} (h : i < bs.length) : free (bs.drop i) i = if bs[i] then free (bs.drop (i + 1)) (i + 1) else i :: free (bs.drop (i + 1)) (i + 1) := by
  rw [List.drop_eq_getElem_cons h, free]
theorem free_trues (bs : List Bool) (i : Nat) : ∀ k, i + k ≤ bs.length → (∀ j, j < k → bs.getD (i + j) false = true) → free (bs.drop i) i = free (bs.drop (i + k)) (i + k)
  | 0, _, _ => rfl
  | k + 1, hk, h => by
    have hlt : i + k < bs.length := by omega
    have hb := h k (by omega)
    rw [List.getD, List.getElem?_eq_getElem hlt, Option.getD_some] at hb
    rw [free_trues bs i k (by omega) (fun j hj => h j (by omega)), free_step bs hlt, if_pos hb]
    rfl
theorem free_end (bs : List Bool) {i : Nat} (h : bs.length ≤ i) : free (bs.drop i) i = [] := by
  rw [List.drop_eq_nil_of_le h]
  rfl
end Bmp
