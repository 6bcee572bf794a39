/- The field of 256 as plain Lean on numbers below 256. Nothing about the program. -/
namespace Fld
/-- Twice. -/
def xt (x : Nat) : Nat := if 256 ≤ 2 * x then (2 * x) ^^^ 285 else 2 * x
/-- The powers of 2. -/
def pw : Nat → Nat
  | 0 => 1
  | n + 1 => xt (pw n)
/-- x times 2, so many times. -/
def xts : Nat → Nat → Nat
  | 0, x => x
  | n + 1, x => xt (xts n x)
/-- The product, bit by bit, so many bits of b from the least. -/
def gm (a b : Nat) : Nat → Nat
  | 0 => 0
  | i + 1 => if b / 2 ^ i % 2 = 1 then gm a b i ^^^ xts i a else gm a b i
def gmul (a b : Nat) : Nat := gm a b 8
/-- The logarithm, where so many powers are known. -/
def lg : Nat → Nat → Nat
  | 0, _ => 0
  | i + 1, v => if v = pw i then i else lg i v
theorem xor_lt {a b : Nat} (ha : a < 256) (hb : b < 256) : a ^^^ b < 256 := Nat.xor_lt_two_pow (n := 8) ha hb
theorem xt_lt_all : ∀ x < 256, xt x < 256 := by decide +kernel
theorem xt_lt {x : Nat} (h : x < 256) : xt x < 256 := xt_lt_all x h
theorem xt_xor_all : ∀ x < 256, ∀ y < 256, xt (x ^^^ y) = xt x ^^^ xt y := by decide +kernel
theorem xt_xor {x y : Nat} (hx : x < 256) (hy : y < 256) : xt (x ^^^ y) = xt x ^^^ xt y := xt_xor_all x hx y hy
theorem pw_lt (n : Nat) : pw n < 256 := by
  induction n with
  | zero => decide
  | succ n ih => exact xt_lt ih
theorem xts_lt {x : Nat} (h : x < 256) (n : Nat) : xts n x < 256 := by
  induction n with
  | zero => exact h
  | succ n ih => exact xt_lt ih
theorem xts_xor {x y : Nat} (hx : x < 256) (hy : y < 256) (n : Nat) : xts n (x ^^^ y) = xts n x ^^^ xts n y := by
  induction n with
  | zero => rfl
  | succ n ih => simp only [xts, ih, xt_xor (xts_lt hx n) (xts_lt hy n)]
theorem xts_zero (n : Nat) : xts n 0 = 0 := by
  induction n with
  | zero => rfl
  | succ n ih => simp only [xts, ih]; rfl
theorem xts_succ (n x : Nat) : xts n (xt x) = xt (xts n x) := by
  induction n with
  | zero => rfl
  | succ n ih => simp only [xts, ih]
theorem xts_add (m n x : Nat) : xts (m + n) x = xts m (xts n x) := by
  induction m with
  | zero => simp [xts]
  | succ m ih => rw [Nat.add_right_comm]; simp only [xts, ih]
theorem xts_pw (m n : Nat) : xts m (pw n) = pw (m + n) := by
  induction m with
  | zero => simp [xts]
  | succ m ih => rw [Nat.add_right_comm]; simp only [xts, pw, ih]
theorem gm_lt {a b : Nat} (ha : a < 256) (i : Nat) : gm a b i < 256 := by
  induction i with
  | zero => exact (by decide : (0 : Nat) < 256)
  | succ i ih =>
    unfold gm
    split
    · exact xor_lt ih (xts_lt ha i)
    · exact ih
theorem gmul_lt {a b : Nat} (ha : a < 256) : gmul a b < 256 := gm_lt ha 8
theorem gm_xt {a b : Nat} (ha : a < 256) (i : Nat) : gm (xt a) b i = xt (gm a b i) := by
  induction i with
  | zero => rfl
  | succ i ih =>
    unfold gm
    rw [ih, xts_succ]
    split
    · rw [xt_xor (gm_lt ha i) (xts_lt ha i)]
    · rfl
theorem gmul_xts {a b : Nat} (ha : a < 256) (i : Nat) : gmul (xts i a) b = xts i (gmul a b) := by
  induction i with
  | zero => rfl
  | succ i ih =>
    simp only [xts]
    rw [← ih]
    exact gm_xt (xts_lt ha i) 8
theorem one_mul_all : ∀ b < 256, gmul 1 b = b := by decide +kernel
theorem zero_mul (b : Nat) : gmul 0 b = 0 := by
  have : ∀ i, gm 0 b i = 0 := by
    intro i
    induction i with
    | zero => rfl
    | succ i ih => unfold gm; rw [ih, xts_zero]; split <;> rfl
  exact this 8
theorem mul_zero (a : Nat) : gmul a 0 = 0 := by
  have : ∀ i, gm a 0 i = 0 := by
    intro i
    induction i with
    | zero => rfl
    | succ i ih => unfold gm; rw [ih]; simp
  exact this 8
theorem pw_mul (i : Nat) {b : Nat} (hb : b < 256) : gmul (pw i) b = xts i b := by
  have h := gmul_xts (a := 1) (b := b) (by decide) i
  rw [one_mul_all b hb] at h
  rw [← h, show (1 : Nat) = pw 0 from rfl, xts_pw]
  rfl
theorem pw_pw (i j : Nat) : gmul (pw i) (pw j) = pw (i + j) := by rw [pw_mul i (pw_lt j), xts_pw]
theorem pw_255 : pw 255 = 1 := by decide +kernel
theorem pw_period (i : Nat) : pw (i + 255) = pw i := by
  rw [← xts_pw i 255, pw_255, show (1 : Nat) = pw 0 from rfl, xts_pw]
  rfl
theorem pw_mod (i : Nat) : pw i = pw (i % 255) := by
  have : ∀ k r, pw (r + 255 * k) = pw r := by
    intro k
    induction k with
    | zero => intro r; rfl
    | succ k ih => intro r; rw [show r + 255 * (k + 1) = (r + 255 * k) + 255 from by omega, pw_period, ih]
  conv => lhs; rw [← Nat.mod_add_div i 255]
  exact this _ _
theorem pw_pos_all : ∀ i < 255, pw i ≠ 0 := by decide +kernel
theorem pw_ne (i : Nat) : pw i ≠ 0 := by rw [pw_mod]; exact pw_pos_all _ (Nat.mod_lt _ (by decide))
theorem lg_lt (v : Nat) : ∀ i, lg i v < 255 ∨ 255 < i := by
  intro i
  induction i with
  | zero => left; show (0 : Nat) < 255; decide
  | succ i ih =>
    unfold lg
    split <;> omega
theorem log_all : ∀ v < 256, v = 0 ∨ pw (lg 255 v) = v := by decide +kernel
theorem log_lt (v : Nat) : lg 255 v < 255 := by have := lg_lt v 255; omega
theorem pw_log {v : Nat} (h : v < 256) (h0 : v ≠ 0) : pw (lg 255 v) = v := by
  rcases log_all v h with h1 | h1
  · exact absurd h1 h0
  · exact h1
theorem log_pw_all : ∀ i < 255, lg 255 (pw i) = i := by decide +kernel
theorem log_pw (i : Nat) : lg 255 (pw i) = i % 255 := by rw [pw_mod]; exact log_pw_all _ (Nat.mod_lt _ (by decide))
/-! ### the laws of a field -/
theorem mul_eq {a b : Nat} (ha : a < 256) (hb : b < 256) (h0 : a ≠ 0) (h1 : b ≠ 0) : gmul a b = pw (lg 255 a + lg 255 b) := by
  rw [← pw_pw, pw_log ha h0, pw_log hb h1]
theorem mul_comm {a b : Nat} (ha : a < 256) (hb : b < 256) : gmul a b = gmul b a := by
  by_cases h0 : a = 0
  · rw [h0, zero_mul, mul_zero]
  · by_cases h1 : b = 0
    · rw [h1, zero_mul, mul_zero]
    · rw [mul_eq ha hb h0 h1, mul_eq hb ha h1 h0, Nat.add_comm]
theorem mul_assoc {a b c : Nat} (ha : a < 256) (hb : b < 256) (hc : c < 256) : gmul (gmul a b) c = gmul a (gmul b c) := by
  by_cases h0 : a = 0
  · rw [h0]; simp only [zero_mul]
  · by_cases h1 : b = 0
    · rw [h1]; simp only [zero_mul, mul_zero]
    · by_cases h2 : c = 0
      · rw [h2]; simp only [mul_zero]
      · rw [← pw_log ha h0, ← pw_log hb h1, ← pw_log hc h2]
        simp only [pw_pw, Nat.add_assoc]
theorem mul_one {a : Nat} (ha : a < 256) : gmul a 1 = a := by rw [mul_comm ha (by decide), one_mul_all a ha]
theorem gm_xor (a : Nat) {b c : Nat} (i : Nat) : gm a (b ^^^ c) i = gm a b i ^^^ gm a c i := by
  induction i with
  | zero => show (0 : Nat) = 0 ^^^ 0; rfl
  | succ i ih =>
    have hx : ((b ^^^ c) / 2 ^ i % 2 = 1) ↔ ((b / 2 ^ i % 2 = 1) ≠ (c / 2 ^ i % 2 = 1)) := by
      have h := Nat.testBit_xor b c i
      simp only [Nat.testBit_eq_decide_div_mod_eq] at h
      by_cases h1 : b / 2 ^ i % 2 = 1 <;> by_cases h2 : c / 2 ^ i % 2 = 1 <;> simp_all
    unfold gm
    rw [ih]
    by_cases h1 : b / 2 ^ i % 2 = 1 <;> by_cases h2 : c / 2 ^ i % 2 = 1
    · rw [if_neg (by rw [hx]; simp [h1, h2]), if_pos h1, if_pos h2]
      rw [show gm a b i ^^^ xts i a ^^^ (gm a c i ^^^ xts i a) = gm a b i ^^^ gm a c i ^^^ (xts i a ^^^ xts i a) from by ac_rfl, Nat.xor_self, Nat.xor_zero]
    · rw [if_pos (by rw [hx]; simp [h1, h2]), if_pos h1, if_neg h2]
      ac_rfl
    · rw [if_pos (by rw [hx]; simp [h1, h2]), if_neg h1, if_pos h2]
      ac_rfl
    · rw [if_neg (by rw [hx]; simp [h1, h2]), if_neg h1, if_neg h2]
theorem mul_xor (a b c : Nat) : gmul a (b ^^^ c) = gmul a b ^^^ gmul a c := gm_xor a 8
theorem xor_mul {a b c : Nat} (ha : a < 256) (hb : b < 256) (hc : c < 256) : gmul (a ^^^ b) c = gmul a c ^^^ gmul b c := by
  rw [mul_comm (xor_lt ha hb) hc, mul_xor, mul_comm hc ha, mul_comm hc hb]
theorem mul_ne {a b : Nat} (ha : a < 256) (hb : b < 256) (h0 : a ≠ 0) (h1 : b ≠ 0) : gmul a b ≠ 0 := by rw [mul_eq ha hb h0 h1]; exact pw_ne _
theorem mul_left_inj {a b c : Nat} (ha : a < 256) (hb : b < 256) (hc : c < 256) (h0 : c ≠ 0) (h : gmul a c = gmul b c) : a = b := by
  have hx : gmul (a ^^^ b) c = 0 := by rw [xor_mul ha hb hc, h, Nat.xor_self]
  by_cases hz : a ^^^ b = 0
  · calc a = (a ^^^ b) ^^^ b := by rw [Nat.xor_assoc, Nat.xor_self, Nat.xor_zero]
      _ = b := by rw [hz, Nat.zero_xor]
  · exact absurd hx (mul_ne (xor_lt ha hb) hc hz h0)
/-- What the tables answer for a quotient. -/
def gdiv (a b : Nat) : Nat := if a = 0 then 0 else pw (lg 255 a + 255 - lg 255 b)
theorem gdiv_lt (a b : Nat) : gdiv a b < 256 := by
  unfold gdiv
  split
  · decide
  · exact pw_lt _
theorem div_mul {a b : Nat} (ha : a < 256) (hb : b < 256) (h0 : b ≠ 0) : gmul (gdiv a b) b = a := by
  unfold gdiv
  split
  · rename_i h; rw [h, zero_mul]
  · rename_i h
    have h1 := log_lt b
    conv => lhs; rw [← pw_log hb h0]
    rw [pw_pw, log_pw, Nat.mod_eq_of_lt h1, show lg 255 a + 255 - lg 255 b + lg 255 b = lg 255 a + 255 from by omega, pw_period, pw_log ha h]
theorem div_unique {a b c : Nat} (ha : a < 256) (hb : b < 256) (hc : c < 256) (h0 : b ≠ 0) (h : gmul c b = a) : c = gdiv a b :=
  mul_left_inj hc (gdiv_lt a b) hb h0 (h.trans (div_mul ha hb h0).symm)
/-- Powers, one factor behind the other. -/
def gpow (a : Nat) : Nat → Nat
  | 0 => 1
  | n + 1 => gmul (gpow a n) a
theorem gpow_lt {a : Nat} : ∀ n, gpow a n < 256
  | 0 => by show (1 : Nat) < 256; decide
  | n + 1 => gmul_lt (gpow_lt n)
theorem gpow_pw (i : Nat) : ∀ n, gpow (pw i) n = pw (i * n)
  | 0 => rfl
  | n + 1 => by
    unfold gpow
    rw [gpow_pw i n, pw_pw, Nat.mul_succ]
theorem gpow_log {a : Nat} (ha : a < 256) (h0 : a ≠ 0) (n : Nat) : gpow a n = pw (lg 255 a * n % 255) := by
  conv => lhs; rw [← pw_log ha h0]
  rw [gpow_pw, ← pw_mod]
end Fld
