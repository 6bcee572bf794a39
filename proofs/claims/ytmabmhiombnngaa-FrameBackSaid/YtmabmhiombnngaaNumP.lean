/- Numbers and texts as bytes, in plain Lean. Nothing about the program. -/
set_option linter.unusedVariables false
set_option linter.unusedSimpArgs false
namespace Num
/-! ### numbers of so many bytes -/
def leB (n k : Nat) : List UInt8 := (List.range k).map fun i => UInt8.ofNat (n / 256 ^ i)
theorem leB_succ (n k : Nat) : leB n (k + 1) = leB n k ++ [UInt8.ofNat (n / 256 ^ k)] := by simp [leB, List.range_succ]
theorem leB_length (n k : Nat) : (leB n k).length = k := by simp [leB]
def put (out : List UInt8) (width : Int) (n : Nat) : List UInt8 := if 1 ≤ width ∧ width ≤ 8 then out ++ leB n width.toNat else out
def leN : List UInt8 → Nat
  | [] => 0
  | b :: t => b.toNat + 256 * leN t
theorem leN_snoc (l : List UInt8) (b : UInt8) : leN (l ++ [b]) = leN l + 256 ^ l.length * b.toNat := by
  induction l with
  | nil => simp [leN]
  | cons x t ih =>
    rw [List.cons_append, leN, ih, leN, List.length_cons, Nat.pow_succ, Nat.mul_add]
    generalize 256 ^ t.length = p
    rw [show 256 * (p * b.toNat) = p * 256 * b.toNat from by rw [← Nat.mul_assoc, Nat.mul_comm 256 p]]
    omega
theorem leN_lt (l : List UInt8) : leN l < 256 ^ l.length := by
  induction l with
  | nil => simp [leN]
  | cons x t ih =>
    have hx := x.toNat_lt
    rw [leN, List.length_cons, Nat.pow_succ]
    omega
theorem leN_leB (n : Nat) : ∀ k, leN (leB n k) = n % 256 ^ k
  | 0 => by simp [leB, leN, Nat.mod_one]
  | k + 1 => by
    rw [leB_succ, leN_snoc, leN_leB n k, leB_length, UInt8.toNat_ofNat', show 256 ^ (k + 1) = 256 ^ k * 256 from rfl, Nat.mod_mul]
/-! ### numbers of few bytes -/
def varB : Nat → Nat → List UInt8
  | 0, n => [UInt8.ofNat n]
  | f + 1, n => if n < 128 then [UInt8.ofNat n] else UInt8.ofNat (n % 128 + 128) :: varB f (n / 128)
def vb (n : Nat) : List UInt8 := varB 9 n
theorem varB_low {n : Nat} (h : n < 128) : ∀ f, varB f n = [UInt8.ofNat n]
  | 0 => rfl
  | f + 1 => by rw [varB, if_pos h]
theorem varB_length : ∀ f n, 1 ≤ (varB f n).length ∧ (varB f n).length ≤ f + 1
  | 0, n => by simp [varB]
  | f + 1, n => by
    have := varB_length f (n / 128)
    rw [varB]
    split
    · simp
    · simp; omega
/-- What stands there: the number, how many bytes it takes, the error. -/
def rv : List UInt8 → Nat → Nat → Nat × Nat × Nat
  | [], _, _ => (0, 0, 5)
  | c :: t, i, n =>
    if (i = 9 ∧ 1 < c.toNat) ∨ (0 < i ∧ c.toNat = 0) then (0, 0, 3)
    else if c.toNat < 128 then (n + c.toNat % 128 * 128 ^ i, i + 1, 0) else rv t (i + 1) (n + c.toNat % 128 * 128 ^ i)
def var (bs : List UInt8) (at_ : Int) : Nat × Int × Nat :=
  if at_ < 0 ∨ (bs.length : Int) < at_ then (0, 0, 2)
  else
    let r := rv (bs.drop at_.toNat) 0 0
    (r.1, if r.2.2 = 0 then at_ + (r.2.1 : Int) else 0, r.2.2)
/-- how great a number may be of which i bytes were read -/
def cap (i : Nat) : Nat := 2 ^ (64 - 7 * i)
theorem cap_pos (i : Nat) : 0 < cap i := Nat.two_pow_pos _
theorem cap_succ {i : Nat} (h : i ≤ 8) : cap i = 128 * cap (i + 1) := by
  unfold cap
  rw [show 64 - 7 * i = 7 + (64 - 7 * (i + 1)) from by omega, Nat.pow_add]
theorem cap_nine : cap 9 = 2 := rfl
theorem cap_mul {i : Nat} (h : i ≤ 9) : 128 ^ i * cap i = 18446744073709551616 := by
  unfold cap
  rw [show (128 : Nat) = 2 ^ 7 from rfl, ← Nat.pow_mul, ← Nat.pow_add, show 7 * i + (64 - 7 * i) = 64 from by omega]
theorem rv_err : ∀ (l : List UInt8) (i n : Nat), (rv l i n).2.2 ≠ 0 → (rv l i n).1 = 0 ∧ (rv l i n).2.1 = 0
  | [], _, _, _ => ⟨rfl, rfl⟩
  | c :: t, i, n, h => by
    rw [rv] at h ⊢
    split
    · exact ⟨rfl, rfl⟩
    · rename_i h1
      rw [if_neg h1] at h
      split
      · rename_i h2
        rw [if_pos h2] at h
        exact absurd rfl h
      · rename_i h2
        rw [if_neg h2] at h
        exact rv_err t (i + 1) _ h
theorem rv_codes : ∀ (l : List UInt8) (i n : Nat), (rv l i n).2.2 = 0 ∨ (rv l i n).2.2 = 3 ∨ (rv l i n).2.2 = 5
  | [], _, _ => .inr (.inr rfl)
  | c :: t, i, n => by
    rw [rv]
    split
    · exact .inr (.inl rfl)
    · split
      · exact .inl rfl
      · exact rv_codes t (i + 1) _
theorem rv_ok : ∀ (l : List UInt8) (i n : Nat), i ≤ 9 → (rv l i n).2.2 = 0 → ∃ q, (rv l i n).1 = n + 128 ^ i * q ∧ i < (rv l i n).2.1 ∧ (rv l i n).2.1 - i ≤ l.length ∧
    l.take ((rv l i n).2.1 - i) = varB (9 - i) q ∧ (0 < i → 1 ≤ q) ∧ q < cap i ∧ (rv l i n).2.1 ≤ 10
  | [], _, _, _, h => by simp [rv] at h
  | c :: t, i, n, hi, h => by
    rw [rv] at h ⊢
    by_cases h1 : (i = 9 ∧ 1 < c.toNat) ∨ (0 < i ∧ c.toNat = 0)
    · rw [if_pos h1] at h
      simp at h
    · rw [if_neg h1] at h ⊢
      have hc := c.toNat_lt
      by_cases h2 : c.toNat < 128
      · rw [if_pos h2] at h ⊢
        refine ⟨c.toNat, by rw [Nat.mod_eq_of_lt h2, Nat.mul_comm], by simp, by simp, ?_, by omega, ?_, by simp; omega⟩
        · rw [show i + 1 - i = 1 from by omega, varB_low h2]
          simp
        · by_cases h9 : i = 9
          · subst h9
            rw [cap_nine]
            omega
          · have := cap_succ (i := i) (by omega)
            have := cap_pos (i + 1)
            omega
      · rw [if_neg h2] at h ⊢
        have h9 : i ≠ 9 := by omega
        obtain ⟨q, e1, e2, e3, e4, e5, e6, e7⟩ := rv_ok t (i + 1) _ (by omega) h
        have hq := e5 (by omega)
        generalize rv t (i + 1) (n + c.toNat % 128 * 128 ^ i) = r at *
        have hcap := cap_succ (i := i) (by omega)
        refine ⟨c.toNat % 128 + 128 * q, ?_, by omega, by simp; omega, ?_, by omega, by omega, e7⟩
        · rw [e1, Nat.pow_succ, Nat.mul_add]
          generalize 128 ^ i = p
          rw [show p * (128 * q) = p * 128 * q from by rw [Nat.mul_assoc], Nat.mul_comm p (c.toNat % 128)]
          omega
        · rw [show r.2.1 - i = (r.2.1 - (i + 1)) + 1 from by omega, List.take_succ_cons, e4, show 9 - i = (9 - (i + 1)) + 1 from by omega, varB, if_neg (by omega)]
          rw [show (c.toNat % 128 + 128 * q) / 128 = q from by omega, show (c.toNat % 128 + 128 * q) % 128 + 128 = c.toNat from by omega]
          simp
theorem rv_varB : ∀ (f i q n : Nat) (r : List UInt8), f + i = 9 → q < cap i → (0 < i → 1 ≤ q) → rv (varB f q ++ r) i n = (n + 128 ^ i * q, i + (varB f q).length, 0)
  | 0, i, q, n, r, hf, hq, h1 => by
    obtain rfl : i = 9 := by omega
    rw [cap_nine] at hq
    have h1 := h1 (by omega)
    obtain rfl : q = 1 := by omega
    simp [varB, rv]
  | f + 1, i, q, n, r, hf, hq, h1 => by
    rw [varB]
    by_cases h : q < 128
    · rw [if_pos h, List.singleton_append, rv]
      have e : (UInt8.ofNat q).toNat = q := by rw [UInt8.toNat_ofNat', Nat.mod_eq_of_lt (by omega)]
      rw [e, if_neg (by omega), if_pos h, Nat.mod_eq_of_lt h, Nat.mul_comm]
      simp
    · rw [if_neg h, List.cons_append, rv]
      have e : (UInt8.ofNat (q % 128 + 128)).toNat = q % 128 + 128 := by rw [UInt8.toNat_ofNat', Nat.mod_eq_of_lt (by omega)]
      rw [e, if_neg (by omega), if_neg (by omega), rv_varB f (i + 1) (q / 128) _ r (by omega) (by have := cap_succ (i := i) (by omega); omega) (by omega)]
      rw [Nat.pow_succ, show (q % 128 + 128) % 128 = q % 128 from by omega]
      refine Prod.ext ?_ (Prod.ext (by simp; omega) rfl)
      show n + q % 128 * 128 ^ i + 128 ^ i * 128 * (q / 128) = n + 128 ^ i * q
      generalize 128 ^ i = p
      have : p * q = p * (q % 128) + p * 128 * (q / 128) := by
        rw [Nat.mul_assoc, ← Nat.mul_add, Nat.mod_add_div]
      rw [this, Nat.mul_comm (q % 128) p]
      omega
theorem rv_vb (n : Nat) (h : n < 18446744073709551616) (r : List UInt8) : rv (vb n ++ r) 0 0 = (n, (vb n).length, 0) := by
  have := rv_varB 9 0 n 0 r rfl (by unfold cap; exact h) (by omega)
  unfold vb
  simpa using this
/-! ### texts with their lengths -/
def text (out s : List UInt8) : List UInt8 := out ++ (vb s.length ++ s)
/-- The bytes of a text that stands there, the place behind them, the error. -/
def part (bs : List UInt8) (at_ most : Int) : List UInt8 × Int × Nat :=
  let v := var bs at_
  if v.2.2 ≠ 0 then ([], 0, v.2.2)
  else if (max most 0).toNat < v.1 then ([], 0, 6)
  else if (bs.length - v.2.1.toNat) < v.1 then ([], 0, 5)
  else ((bs.drop v.2.1.toNat).take v.1, v.2.1 + (v.1 : Int), 0)
end Num
