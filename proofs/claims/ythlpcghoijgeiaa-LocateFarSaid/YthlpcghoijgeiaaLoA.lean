/- Texts that are in use elsewhere, put together. -/
/-! FldM -/
section
namespace Fld
/-- Twice. -/
def xt (x : Nat) : Nat := if 256 ≤ 2 * x then (2 * x) ^^^ 285 else 2 * x
/-- The powers of 2. -/
def pw : Nat → Nat
  | 0 => 1
  | n + 1 => xt (pw n)
/-- x times 2, so many times. -/
def xts : Nat → Nat → Nat
  | 0, x => x
  | n + 1, x => xt (xts n x)
/-- The product, bit by bit, so many bits of b from the least. -/
def gm (a b : Nat) : Nat → Nat
  | 0 => 0
  | i + 1 => if b / 2 ^ i % 2 = 1 then gm a b i ^^^ xts i a else gm a b i
def gmul (a b : Nat) : Nat := gm a b 8
/-- The logarithm, where so many powers are known. -/
def lg : Nat → Nat → Nat
  | 0, _ => 0
  | i + 1, v => if v = pw i then i else lg i v
theorem xor_lt {a b : Nat} (ha : a < 256) (hb : b < 256) : a ^^^ b < 256 := Nat.xor_lt_two_pow (n := 8) ha hb
theorem xt_lt_all : ∀ x < 256, xt x < 256 := by decide +kernel
theorem xt_lt {x : Nat} (h : x < 256) : xt x < 256 := xt_lt_all x h
theorem xt_xor_all : ∀ x < 256, ∀ y < 256, xt (x ^^^ y) = xt x ^^^ xt y := by decide +kernel
theorem xt_xor {x y : Nat} (hx : x < 256) (hy : y < 256) : xt (x ^^^ y) = xt x ^^^ xt y := xt_xor_all x hx y hy
theorem pw_lt (n : Nat) : pw n < 256 := by
  induction n with
  | zero => decide
  | succ n ih => exact xt_lt ih
theorem xts_lt {x : Nat} (h : x < 256) (n : Nat) : xts n x < 256 := by
  induction n with
  | zero => exact h
  | succ n ih => exact xt_lt ih
theorem xts_xor {x y : Nat} (hx : x < 256) (hy : y < 256) (n : Nat) : xts n (x ^^^ y) = xts n x ^^^ xts n y := by
  induction n with
  | zero => rfl
  | succ n ih => simp only [xts, ih, xt_xor (xts_lt hx n) (xts_lt hy n)]
theorem xts_zero (n : Nat) : xts n 0 = 0 := by
  induction n with
  | zero => rfl
  | succ n ih => simp only [xts, ih]; rfl
theorem xts_succ (n x : Nat) : xts n (xt x) = xt (xts n x) := by
  induction n with
  | zero => rfl
  | succ n ih => simp only [xts, ih]
theorem xts_add (m n x : Nat) : xts (m + n) x = xts m (xts n x) := by
  induction m with
  | zero => simp [xts]
  | succ m ih => rw [Nat.add_right_comm]; simp only [xts, ih]
theorem xts_pw (m n : Nat) : xts m (pw n) = pw (m + n) := by
  induction m with
  | zero => simp [xts]
  | succ m ih => rw [Nat.add_right_comm]; simp only [xts, pw, ih]
theorem gm_lt {a b : Nat} (ha : a < 256) (i : Nat) : gm a b i < 256 := by
  induction i with
  | zero => exact (by decide : (0 : Nat) < 256)
  | succ i ih =>
    unfold gm
    split
    · exact xor_lt ih (xts_lt ha i)
    · exact ih
theorem gmul_lt {a b : Nat} (ha : a < 256) : gmul a b < 256 := gm_lt ha 8
theorem gm_xt {a b : Nat} (ha : a < 256) (i : Nat) : gm (xt a) b i = xt (gm a b i) := by
  induction i with
  | zero => rfl
  | succ i ih =>
    unfold gm
    rw [ih, xts_succ]
    split
    · rw [xt_xor (gm_lt ha i) (xts_lt ha i)]
    · rfl
theorem gmul_xts {a b : Nat} (ha : a < 256) (i : Nat) : gmul (xts i a) b = xts i (gmul a b) := by
  induction i with
  | zero => rfl
  | succ i ih =>
    simp only [xts]
    rw [← ih]
    exact gm_xt (xts_lt ha i) 8
theorem one_mul_all : ∀ b < 256, gmul 1 b = b := by decide +kernel
theorem zero_mul (b : Nat) : gmul 0 b = 0 := by
  have : ∀ i, gm 0 b i = 0 := by
    intro i
    induction i with
    | zero => rfl
    | succ i ih => unfold gm; rw [ih, xts_zero]; split <;> rfl
  exact this 8
theorem mul_zero (a : Nat) : gmul a 0 = 0 := by
  have : ∀ i, gm a 0 i = 0 := by
    intro i
    induction i with
    | zero => rfl
    | succ i ih => unfold gm; rw [ih]; simp
  exact this 8
theorem pw_mul (i : Nat) {b : Nat} (hb : b < 256) : gmul (pw i) b = xts i b := by
  have h := gmul_xts (a := 1) (b := b) (by decide) i
  rw [one_mul_all b hb] at h
  rw [← h, show (1 : Nat) = pw 0 from rfl, xts_pw]
  rfl
theorem pw_pw (i j : Nat) : gmul (pw i) (pw j) = pw (i + j) := by rw [pw_mul i (pw_lt j), xts_pw]
theorem pw_255 : pw 255 = 1 := by decide +kernel
theorem pw_period (i : Nat) : pw (i + 255) = pw i := by
  rw [← xts_pw i 255, pw_255, show (1 : Nat) = pw 0 from rfl, xts_pw]
  rfl
theorem pw_mod (i : Nat) : pw i = pw (i % 255) := by
  have : ∀ k r, pw (r + 255 * k) = pw r := by
    intro k
    induction k with
    | zero => intro r; rfl
    | succ k ih => intro r; rw [show r + 255 * (k + 1) = (r + 255 * k) + 255 from by omega, pw_period, ih]
  conv => lhs; rw [← Nat.mod_add_div i 255]
  exact this _ _
theorem pw_pos_all : ∀ i < 255, pw i ≠ 0 := by decide +kernel
theorem pw_ne (i : Nat) : pw i ≠ 0 := by rw [pw_mod]; exact pw_pos_all _ (Nat.mod_lt _ (by decide))
theorem lg_lt (v : Nat) : ∀ i, lg i v < 255 ∨ 255 < i := by
  intro i
  induction i with
  | zero => left; show (0 : Nat) < 255; decide
  | succ i ih =>
    unfold lg
    split <;> omega
theorem log_all : ∀ v < 256, v = 0 ∨ pw (lg 255 v) = v := by decide +kernel
theorem log_lt (v : Nat) : lg 255 v < 255 := by have := lg_lt v 255; omega
theorem pw_log {v : Nat} (h : v < 256) (h0 : v ≠ 0) : pw (lg 255 v) = v := by
  rcases log_all v h with h1 | h1
  · exact absurd h1 h0
  · exact h1
theorem log_pw_all : ∀ i < 255, lg 255 (pw i) = i := by decide +kernel
theorem log_pw (i : Nat) : lg 255 (pw i) = i % 255 := by rw [pw_mod]; exact log_pw_all _ (Nat.mod_lt _ (by decide))
/-! ### the laws of a field -/
theorem mul_eq {a b : Nat} (ha : a < 256) (hb : b < 256) (h0 : a ≠ 0) (h1 : b ≠ 0) : gmul a b = pw (lg 255 a + lg 255 b) := by
  rw [← pw_pw, pw_log ha h0, pw_log hb h1]
theorem mul_comm {a b : Nat} (ha : a < 256) (hb : b < 256) : gmul a b = gmul b a := by
  by_cases h0 : a = 0
  · rw [h0, zero_mul, mul_zero]
  · by_cases h1 : b = 0
    · rw [h1, zero_mul, mul_zero]
    · rw [mul_eq ha hb h0 h1, mul_eq hb ha h1 h0, Nat.add_comm]
theorem mul_assoc {a b c : Nat} (ha : a < 256) (hb : b < 256) (hc : c < 256) : gmul (gmul a b) c = gmul a (gmul b c) := by
  by_cases h0 : a = 0
  · rw [h0]; simp only [zero_mul]
  · by_cases h1 : b = 0
    · rw [h1]; simp only [zero_mul, mul_zero]
    · by_cases h2 : c = 0
      · rw [h2]; simp only [mul_zero]
      · rw [← pw_log ha h0, ← pw_log hb h1, ← pw_log hc h2]
        simp only [pw_pw, Nat.add_assoc]
theorem mul_one {a : Nat} (ha : a < 256) : gmul a 1 = a := by rw [mul_comm ha (by decide), one_mul_all a ha]
theorem gm_xor (a : Nat) {b c : Nat} (i : Nat) : gm a (b ^^^ c) i = gm a b i ^^^ gm a c i := by
  induction i with
  | zero => show (0 : Nat) = 0 ^^^ 0; rfl
  | succ i ih =>
    have hx : ((b ^^^ c) / 2 ^ i % 2 = 1) ↔ ((b / 2 ^ i % 2 = 1) ≠ (c / 2 ^ i % 2 = 1)) := by
      have h := Nat.testBit_xor b c i
      simp only [Nat.testBit_eq_decide_div_mod_eq] at h
      by_cases h1 : b / 2 ^ i % 2 = 1 <;> by_cases h2 : c / 2 ^ i % 2 = 1 <;> simp_all
    unfold gm
    rw [ih]
    by_cases h1 : b / 2 ^ i % 2 = 1 <;> by_cases h2 : c / 2 ^ i % 2 = 1
    · rw [if_neg (by rw [hx]; simp [h1, h2]), if_pos h1, if_pos h2]
      rw [show gm a b i ^^^ xts i a ^^^ (gm a c i ^^^ xts i a) = gm a b i ^^^ gm a c i ^^^ (xts i a ^^^ xts i a) from by ac_rfl, Nat.xor_self, Nat.xor_zero]
    · rw [if_pos (by rw [hx]; simp [h1, h2]), if_pos h1, if_neg h2]
      ac_rfl
    · rw [if_pos (by rw [hx]; simp [h1, h2]), if_neg h1, if_pos h2]
      ac_rfl
    · rw [if_neg (by rw [hx]; simp [h1, h2]), if_neg h1, if_neg h2]
theorem mul_xor (a b c : Nat) : gmul a (b ^^^ c) = gmul a b ^^^ gmul a c := gm_xor a 8
theorem xor_mul {a b c : Nat} (ha : a < 256) (hb : b < 256) (hc : c < 256) : gmul (a ^^^ b) c = gmul a c ^^^ gmul b c := by
  rw [mul_comm (xor_lt ha hb) hc, mul_xor, mul_comm hc ha, mul_comm hc hb]
theorem mul_ne {a b : Nat} (ha : a < 256) (hb : b < 256) (h0 : a ≠ 0) (h1 : b ≠ 0) : gmul a b ≠ 0 := by rw [mul_eq ha hb h0 h1]; exact pw_ne _
theorem mul_left_inj {a b c : Nat} (ha : a < 256) (hb : b < 256) (hc : c < 256) (h0 : c ≠ 0) (h : gmul a c = gmul b c) : a = b := by
  have hx : gmul (a ^^^ b) c = 0 := by rw [xor_mul ha hb hc, h, Nat.xor_self]
  by_cases hz : a ^^^ b = 0
  · calc a = (a ^^^ b) ^^^ b := by rw [Nat.xor_assoc, Nat.xor_self, Nat.xor_zero]
      _ = b := by rw [hz, Nat.zero_xor]
  · exact absurd hx (mul_ne (xor_lt ha hb) hc hz h0)
/-- What the tables answer for a quotient. -/
def gdiv (a b : Nat) : Nat := if a = 0 then 0 else pw (lg 255 a + 255 - lg 255 b)
theorem gdiv_lt (a b : Nat) : gdiv a b < 256 := by
  unfold gdiv
  split
  · decide
  · exact pw_lt _
theorem div_mul {a b : Nat} (ha : a < 256) (hb : b < 256) (h0 : b ≠ 0) : gmul (gdiv a b) b = a := by
  unfold gdiv
  split
  · rename_i h; rw [h, zero_mul]
  · rename_i h
    have h1 := log_lt b
    conv => lhs; rw [← pw_log hb h0]
    rw [pw_pw, log_pw, Nat.mod_eq_of_lt h1, show lg 255 a + 255 - lg 255 b + lg 255 b = lg 255 a + 255 from by omega, pw_period, pw_log ha h]
theorem div_unique {a b c : Nat} (ha : a < 256) (hb : b < 256) (hc : c < 256) (h0 : b ≠ 0) (h : gmul c b = a) : c = gdiv a b :=
  mul_left_inj hc (gdiv_lt a b) hb h0 (h.trans (div_mul ha hb h0).symm)
/-- Powers, one factor behind the other. -/
def gpow (a : Nat) : Nat → Nat
  | 0 => 1
  | n + 1 => gmul (gpow a n) a
theorem gpow_lt {a : Nat} : ∀ n, gpow a n < 256
  | 0 => by show (1 : Nat) < 256; decide
  | n + 1 => gmul_lt (gpow_lt n)
theorem gpow_pw (i : Nat) : ∀ n, gpow (pw i) n = pw (i * n)
  | 0 => rfl
  | n + 1 => by
    unfold gpow
    rw [gpow_pw i n, pw_pw, Nat.mul_succ]
theorem gpow_log {a : Nat} (ha : a < 256) (h0 : a ≠ 0) (n : Nat) : gpow a n = pw (lg 255 a * n % 255) := by
  conv => lhs; rw [← pw_log ha h0]
  rw [gpow_pw, ← pw_mod]
end Fld

end
/-! LinP -/
section
set_option linter.unusedVariables false
set_option linter.unusedSimpArgs false
namespace Lin
/-- The product. -/
def gm (a b : UInt8) : UInt8 := UInt8.ofNat (Fld.gmul a.toNat b.toNat)
/-- The inverse. -/
def gi (a : UInt8) : UInt8 := UInt8.ofNat (Fld.gdiv 1 a.toNat)
theorem gm_toNat (a b : UInt8) : (gm a b).toNat = Fld.gmul a.toNat b.toNat := by
  unfold gm
  rw [UInt8.toNat_ofNat', Nat.mod_eq_of_lt (Fld.gmul_lt a.toNat_lt)]
theorem gi_toNat (a : UInt8) : (gi a).toNat = Fld.gdiv 1 a.toNat := by
  unfold gi
  rw [UInt8.toNat_ofNat', Nat.mod_eq_of_lt (Fld.gdiv_lt _ _)]
theorem ext8 {a b : UInt8} (h : a.toNat = b.toNat) : a = b := UInt8.toNat_inj.1 h
theorem ne8 {a : UInt8} (h : a ≠ 0) : a.toNat ≠ 0 := fun e => h (ext8 (by simpa using e))
theorem gm_comm (a b : UInt8) : gm a b = gm b a := ext8 (by rw [gm_toNat, gm_toNat, Fld.mul_comm a.toNat_lt b.toNat_lt])
theorem gm_assoc (a b c : UInt8) : gm (gm a b) c = gm a (gm b c) := ext8 (by rw [gm_toNat, gm_toNat, gm_toNat, gm_toNat, Fld.mul_assoc a.toNat_lt b.toNat_lt c.toNat_lt])
theorem gm_xor (a b c : UInt8) : gm a (b ^^^ c) = gm a b ^^^ gm a c := ext8 (by rw [gm_toNat, UInt8.toNat_xor, UInt8.toNat_xor, gm_toNat, gm_toNat, Fld.mul_xor])
theorem xor_gm (a b c : UInt8) : gm (a ^^^ b) c = gm a c ^^^ gm b c := by rw [gm_comm, gm_xor, gm_comm c a, gm_comm c b]
theorem gm_one (a : UInt8) : gm a 1 = a := ext8 (by rw [gm_toNat]; exact Fld.mul_one a.toNat_lt)
theorem one_gm (a : UInt8) : gm 1 a = a := by rw [gm_comm, gm_one]
theorem zero_gm (a : UInt8) : gm 0 a = 0 := ext8 (by rw [gm_toNat]; exact Fld.zero_mul _)
theorem gm_zero (a : UInt8) : gm a 0 = 0 := by rw [gm_comm, zero_gm]
theorem gm_ne {a b : UInt8} (ha : a ≠ 0) (hb : b ≠ 0) : gm a b ≠ 0 := fun e => by
  have h := congrArg UInt8.toNat e
  rw [gm_toNat] at h
  exact Fld.mul_ne a.toNat_lt b.toNat_lt (ne8 ha) (ne8 hb) (by simpa using h)
theorem gm_eq {a b : UInt8} (h : gm a b = 0) (ha : a ≠ 0) : b = 0 := Classical.byContradiction fun hb => gm_ne ha hb h
theorem gi_mul {a : UInt8} (h : a ≠ 0) : gm (gi a) a = 1 := ext8 (by
  rw [gm_toNat, gi_toNat]
  exact Fld.div_mul (by decide) a.toNat_lt (ne8 h))
theorem mul_gi {a : UInt8} (h : a ≠ 0) : gm a (gi a) = 1 := by rw [gm_comm, gi_mul h]
theorem gi_ne {a : UInt8} (h : a ≠ 0) : gi a ≠ 0 := fun e => by
  have := gi_mul h
  rw [e, zero_gm] at this
  exact absurd this (by decide)
theorem x_self (a : UInt8) : a ^^^ a = 0 := UInt8.xor_self
theorem x_zero (a : UInt8) : a ^^^ 0 = a := UInt8.xor_zero
theorem z_xor (a : UInt8) : 0 ^^^ a = a := UInt8.zero_xor
theorem x_cancel (a b : UInt8) : a ^^^ (a ^^^ b) = b := by rw [← UInt8.xor_assoc, x_self, z_xor]
theorem x_eq {a b : UInt8} (h : a ^^^ b = 0) : a = b := by
  have := congrArg (· ^^^ b) h
  simp only [UInt8.xor_assoc, x_self, x_zero, z_xor] at this
  exact this
theorem x_ne {a b : UInt8} (h : a ≠ b) : a ^^^ b ≠ 0 := fun e => h (x_eq e)
/-- Sums. -/
def sm : Nat → (Nat → UInt8) → UInt8
  | 0, _ => 0
  | n + 1, f => sm n f ^^^ f n
theorem sm_congr {n : Nat} {f g : Nat → UInt8} (h : ∀ j, j < n → f j = g j) : sm n f = sm n g := by
  induction n with
  | zero => rfl
  | succ n ih => unfold sm; rw [ih fun j hj => h j (by omega), h n (by omega)]
theorem sm_xor (n : Nat) (f g : Nat → UInt8) : sm n (fun j => f j ^^^ g j) = sm n f ^^^ sm n g := by
  induction n with
  | zero => exact (x_self 0).symm
  | succ n ih =>
    show sm n _ ^^^ (f n ^^^ g n) = sm n f ^^^ f n ^^^ (sm n g ^^^ g n)
    rw [ih]
    ac_rfl
theorem sm_mul (c : UInt8) (n : Nat) (f : Nat → UInt8) : gm c (sm n f) = sm n (fun j => gm c (f j)) := by
  induction n with
  | zero => exact gm_zero c
  | succ n ih => unfold sm; rw [gm_xor, ih]
theorem mul_sm (c : UInt8) (n : Nat) (f : Nat → UInt8) : gm (sm n f) c = sm n (fun j => gm (f j) c) := by
  rw [gm_comm, sm_mul]
  exact sm_congr fun j _ => gm_comm _ _
theorem sm_zero {n : Nat} {f : Nat → UInt8} (h : ∀ j, j < n → f j = 0) : sm n f = 0 := by
  induction n with
  | zero => rfl
  | succ n ih => unfold sm; rw [ih fun j hj => h j (by omega), h n (by omega)]; exact x_self 0
theorem sm_comm (n m : Nat) (f : Nat → Nat → UInt8) : sm n (fun i => sm m (fun j => f i j)) = sm m (fun j => sm n (fun i => f i j)) := by
  induction n with
  | zero => exact (sm_zero fun _ _ => rfl).symm
  | succ n ih =>
    show sm n _ ^^^ sm m _ = sm m (fun j => sm n (fun i => f i j) ^^^ f n j)
    rw [sm_xor, ih]
theorem sm_one {n k : Nat} {f : Nat → UInt8} (hk : k < n) (h : ∀ j, j < n → j ≠ k → f j = 0) : sm n f = f k := by
  induction n with
  | zero => omega
  | succ n ih =>
    unfold sm
    by_cases hn : k = n
    · subst hn
      rw [sm_zero fun j hj => h j (by omega) (by omega), z_xor]
    · rw [ih (by omega) fun j hj hjk => h j (by omega) hjk, h n (by omega) (by omega), x_zero]
/-- All but p. -/
def skip (p j : Nat) : Nat := if j < p then j else j + 1
theorem sm_skip (f : Nat → UInt8) : ∀ (m p : Nat), p ≤ m → sm (m + 1) f = f p ^^^ sm m (fun j => f (skip p j))
  | 0, p, h => by
    obtain rfl : p = 0 := by omega
    show sm 0 f ^^^ f 0 = f 0 ^^^ 0
    rw [x_zero]
    exact z_xor _
  | m + 1, p, h => by
    by_cases hp : p = m + 1
    · subst hp
      have : sm (m + 1) (fun j => f (skip (m + 1) j)) = sm (m + 1) f := sm_congr fun j hj => by unfold skip; rw [if_pos hj]
      rw [this]
      exact UInt8.xor_comm _ _
    · show sm (m + 1) f ^^^ f (m + 1) = f p ^^^ (sm m _ ^^^ f (skip p m))
      rw [sm_skip f m p (by omega), UInt8.xor_assoc]
      congr 2
      unfold skip
      rw [if_neg (by omega)]
/-- One or nought. -/
def dl (i j : Nat) : UInt8 := if i = j then 1 else 0
theorem dl_same (i : Nat) : dl i i = 1 := if_pos rfl
theorem dl_ne {i j : Nat} (h : i ≠ j) : dl i j = 0 := if_neg h
theorem dl_comm (i j : Nat) : dl i j = dl j i := by
  unfold dl
  by_cases h : i = j
  · rw [if_pos h, if_pos h.symm]
  · rw [if_neg h, if_neg (Ne.symm h)]
theorem sm_dl {n k : Nat} (hk : k < n) (f : Nat → UInt8) : sm n (fun j => gm (dl k j) (f j)) = f k := by
  rw [sm_one hk fun j _ hj => by rw [dl_ne (Ne.symm hj), zero_gm], dl_same, one_gm]
theorem sm_dl' {n k : Nat} (hk : k < n) (f : Nat → UInt8) : sm n (fun j => gm (f j) (dl j k)) = f k := by
  rw [sm_one hk fun j _ hj => by rw [dl_ne hj, gm_zero], dl_same, gm_one]
/-- A row is a sum of multiples of R rows, as to its first C numbers. -/
def Spn (R C : Nat) (M : Nat → Nat → UInt8) (v : Nat → UInt8) : Prop := ∃ c : Nat → UInt8, ∀ k, k < C → v k = sm R (fun j => gm (c j) (M j k))
def Spans (R C : Nat) (M : Nat → Nat → UInt8) (r : Nat) (T : Nat → Nat → UInt8) : Prop := ∀ i, i < r → Spn R C M (T i)
section
variable {R C r s : Nat} {M T U : Nat → Nat → UInt8} {u v : Nat → UInt8}
theorem Spn.row {j : Nat} (hj : j < R) : Spn R C M (M j) := ⟨dl j, fun k _ => (sm_dl hj fun j => M j k).symm⟩
theorem Spn.congr (h : Spn R C M u) (e : ∀ k, k < C → v k = u k) : Spn R C M v := by
  obtain ⟨c, hc⟩ := h
  exact ⟨c, fun k hk => (e k hk).trans (hc k hk)⟩
theorem Spn.nil : Spn R C M (fun _ => 0) := ⟨fun _ => 0, fun k _ => (sm_zero fun j _ => zero_gm _).symm⟩
theorem Spn.add (h : Spn R C M u) (g : Spn R C M v) : Spn R C M (fun k => u k ^^^ v k) := by
  obtain ⟨c, hc⟩ := h
  obtain ⟨d, hd⟩ := g
  refine ⟨fun j => c j ^^^ d j, fun k hk => ?_⟩
  show u k ^^^ v k = _
  rw [hc k hk, hd k hk, ← sm_xor]
  exact sm_congr fun j _ => (xor_gm _ _ _).symm
theorem Spn.smul (a : UInt8) (h : Spn R C M u) : Spn R C M (fun k => gm a (u k)) := by
  obtain ⟨c, hc⟩ := h
  refine ⟨fun j => gm a (c j), fun k hk => ?_⟩
  show gm a (u k) = _
  rw [hc k hk, sm_mul]
  exact sm_congr fun j _ => (gm_assoc _ _ _).symm
theorem Spn.sum {n : Nat} (a : Nat → UInt8) (V : Nat → Nat → UInt8) (h : ∀ j, j < n → Spn R C M (V j)) : Spn R C M (fun k => sm n (fun j => gm (a j) (V j k))) := by
  induction n with
  | zero => exact Spn.nil
  | succ n ih => exact (ih fun j hj => h j (by omega)).add ((h n (by omega)).smul (a n))
theorem Spn.trans (h : Spn r C T v) (g : Spans R C M r T) : Spn R C M v := by
  obtain ⟨c, hc⟩ := h
  exact (Spn.sum c T g).congr hc
theorem Spans.refl : Spans R C M R M := fun _ hi => Spn.row hi
theorem Spans.trans (h : Spans R C M r T) (g : Spans r C T s U) : Spans R C M s U := fun i hi => (g i hi).trans h
theorem Spn.less {C' : Nat} (h : Spn R C M v) (hC : C' ≤ C) : Spn R C' M v := by
  obtain ⟨c, hc⟩ := h
  exact ⟨c, fun k hk => hc k (by omega)⟩
theorem Spans.less {C' : Nat} (h : Spans R C M r T) (hC : C' ≤ C) : Spans R C' M r T := fun i hi => (h i hi).less hC
theorem Spans.congr (h : Spans R C M r T) (e : ∀ i k, i < r → k < C → U i k = T i k) : Spans R C M r U := fun i hi => (h i hi).congr fun k hk => e i k hi hk
theorem Spn.congrM {M' : Nat → Nat → UInt8} (h : Spn R C M v) (e : ∀ i k, i < R → k < C → M i k = M' i k) : Spn R C M' v := by
  obtain ⟨c, hc⟩ := h
  exact ⟨c, fun k hk => (hc k hk).trans (sm_congr fun j hj => by rw [e j k hj hk])⟩
theorem Spans.congrM {M' : Nat → Nat → UInt8} (h : Spans R C M r T) (e : ∀ i k, i < R → k < C → M i k = M' i k) : Spans R C M' r T := fun i hi => (h i hi).congrM e
/-- Rows that are nought may be left out. -/
theorem Spn.cutZ (h : Spn R C M v) (hr : r ≤ R) (hz : ∀ i k, r ≤ i → i < R → k < C → M i k = 0) : Spn r C M v :=
  h.trans fun i hi => if hir : i < r then Spn.row hir else (Spn.nil).congr fun k hk => hz i k (by omega) hi hk
/-- Rows of which none is a sum of multiples of the others. -/
def LI (R C : Nat) (T : Nat → Nat → UInt8) : Prop := ∀ x : Nat → UInt8, (∀ k, k < C → sm R (fun j => gm (x j) (T j k)) = 0) → ∀ j, j < R → x j = 0
theorem homog : ∀ (n m : Nat) (A : Nat → Nat → UInt8), n < m → ∃ x : Nat → UInt8, (∃ j, j < m ∧ x j ≠ 0) ∧ ∀ k, k < n → sm m (fun j => gm (x j) (A j k)) = 0
  | 0, m, A, h => ⟨fun _ => 1, ⟨0, h, by decide⟩, fun k hk => by omega⟩
  | n + 1, m, A, h => by
    by_cases hall : ∀ j, j < m → A j n = 0
    · obtain ⟨x, hx, hs⟩ := homog n m A (by omega)
      refine ⟨x, hx, fun k hk => ?_⟩
      by_cases hkn : k = n
      · subst hkn
        exact sm_zero fun j hj => by rw [hall j hj, gm_zero]
      · exact hs k (by omega)
    · obtain ⟨p, hp⟩ := Classical.not_forall.1 hall
      obtain ⟨hpm, hpn⟩ := Classical.not_imp.1 hp
      obtain ⟨m', rfl⟩ : ∃ m', m = m' + 1 := ⟨m - 1, by omega⟩
      obtain ⟨q, hq⟩ : ∃ q : Nat → UInt8, ∀ j, q j = gm (A (skip p j) n) (gi (A p n)) := ⟨_, fun _ => rfl⟩
      obtain ⟨y, ⟨j0, hj0, hy0⟩, hs⟩ := homog n m' (fun j k => A (skip p j) k ^^^ gm (q j) (A p k)) (by omega)
      have hk0 : ∀ k, k < n + 1 → sm m' (fun j => gm (y j) (A (skip p j) k ^^^ gm (q j) (A p k))) = 0 := by
        intro k hk
        by_cases hkn : k = n
        · subst hkn
          refine sm_zero fun j _ => ?_
          rw [hq, gm_assoc, gi_mul hpn, gm_one, x_self, gm_zero]
        · exact hs k (by omega)
      refine ⟨fun i => if i = p then sm m' (fun j => gm (y j) (q j)) else if i < p then y i else y (i - 1), ?_, fun k hk => ?_⟩
      · refine ⟨skip p j0, by unfold skip; split <;> omega, ?_⟩
        unfold skip
        by_cases hjp : j0 < p
        · rw [if_pos hjp]
          dsimp only
          rw [if_neg (by omega), if_pos hjp]
          exact hy0
        · rw [if_neg hjp]
          dsimp only
          rw [if_neg (by omega), if_neg (by omega)]
          exact hy0
      · rw [sm_skip _ m' p (by omega)]
        dsimp only
        rw [if_pos rfl, mul_sm, ← sm_xor]
        rw [← hk0 k hk]
        refine sm_congr fun j _ => ?_
        have : (if skip p j = p then sm m' (fun j => gm (y j) (q j)) else if skip p j < p then y (skip p j) else y (skip p j - 1)) = y j := by
          unfold skip
          by_cases hjp : j < p
          · rw [if_pos hjp, if_neg (by omega), if_pos hjp]
          · rw [if_neg hjp, if_neg (by omega), if_neg (by omega)]
            rfl
        rw [this, gm_xor, gm_assoc]
        exact UInt8.xor_comm _ _
theorem LI.le {E : Nat → Nat → UInt8} (h : LI R C T) (g : Spans r C E R T) : R ≤ r := by
  rcases Nat.lt_or_ge r R with hlt | hge
  · have g' : ∀ i, ∃ c : Nat → UInt8, i < R → ∀ k, k < C → T i k = sm r (fun j => gm (c j) (E j k)) := fun i => by
      by_cases hi : i < R
      · obtain ⟨c, hc⟩ := g i hi
        exact ⟨c, fun _ => hc⟩
      · exact ⟨fun _ => 0, fun h => absurd h hi⟩
    obtain ⟨a, ha⟩ := Classical.axiomOfChoice g'
    obtain ⟨x, ⟨j, hj, hx⟩, hs⟩ := homog r R a hlt
    refine absurd (h x (fun k hk => ?_) j hj) hx
    have e1 : sm R (fun j => gm (x j) (T j k)) = sm R (fun i => sm r (fun l => gm (gm (x i) (a i l)) (E l k))) :=
      sm_congr fun i hi => by
        rw [ha i hi k hk, sm_mul]
        exact sm_congr fun l _ => (gm_assoc _ _ _).symm
    rw [e1, sm_comm]
    refine sm_zero fun l hl => ?_
    rw [← mul_sm, hs l hl, zero_gm]
  · exact hge
/-- A matrix is a product with r in between. -/
def Fac (R C : Nat) (M : Nat → Nat → UInt8) (r : Nat) : Prop := ∃ E : Nat → Nat → UInt8, Spans r C E R M
/-- r rows in the span are independent. -/
def Ind (R C : Nat) (M : Nat → Nat → UInt8) (r : Nat) : Prop := ∃ T : Nat → Nat → UInt8, Spans R C M r T ∧ LI r C T
def Rk (R C : Nat) (M : Nat → Nat → UInt8) (r : Nat) : Prop := Fac R C M r ∧ Ind R C M r
theorem Ind.le (h : Ind R C M r) (g : Fac R C M s) : r ≤ s := by
  obtain ⟨T, h1, h2⟩ := h
  obtain ⟨E, he⟩ := g
  exact h2.le (he.trans h1)
theorem Rk.eq (h : Rk R C M r) (g : Rk R C M s) : r = s := Nat.le_antisymm (h.2.le g.1) (g.2.le h.1)
theorem Fac.turn (h : Fac R C M r) : Fac C R (fun i j => M j i) r := by
  obtain ⟨E, he⟩ := h
  have g' : ∀ i, ∃ c : Nat → UInt8, i < R → ∀ k, k < C → M i k = sm r (fun j => gm (c j) (E j k)) := fun i => by
    by_cases hi : i < R
    · obtain ⟨c, hc⟩ := he i hi
      exact ⟨c, fun _ => hc⟩
    · exact ⟨fun _ => 0, fun h => absurd h hi⟩
  obtain ⟨L, hL⟩ := Classical.axiomOfChoice g'
  exact ⟨fun l i => L i l, fun k hk => ⟨fun l => E l k, fun i hi => (hL i hi k hk).trans (sm_congr fun l _ => gm_comm _ _)⟩⟩
theorem Rk.turn (h : Rk R C M r) (g : Rk C R (fun i j => M j i) s) : r = s := Nat.le_antisymm (h.2.le g.1.turn) (g.2.le h.1.turn)
theorem Fac.byRows : Fac R C M R := ⟨M, Spans.refl⟩
theorem Rk.le_rows (h : Rk R C M r) : r ≤ R := h.2.le Fac.byRows
theorem Rk.le_cols (h : Rk R C M r) : r ≤ C := h.2.le (Fac.byRows (M := fun i j => M j i)).turn
theorem Rk.congr (h : Rk R C M r) {M' : Nat → Nat → UInt8} (e : ∀ i k, i < R → k < C → M i k = M' i k) : Rk R C M' r := by
  obtain ⟨⟨E, he⟩, T, h1, h2⟩ := h
  exact ⟨⟨E, he.congr fun i k hi hk => (e i k hi hk).symm⟩, T, h1.congrM e, h2⟩
/-- Rows each with a column in which it has something and those behind it nothing. -/
theorem LI.stairs {a : Nat → Nat} (ha : ∀ l, l < R → a l < C) (h1 : ∀ l, l < R → T l (a l) ≠ 0) (h2 : ∀ l j, l < j → j < R → T j (a l) = 0) : LI R C T := by
  intro x hx
  have : ∀ n l, l < n → l < R → x l = 0 := by
    intro n
    induction n with
    | zero => intro l hl; omega
    | succ n ih =>
      intro l hl hR
      have hz := hx (a l) (ha l hR)
      rw [sm_one hR fun j hj hjl => by
        rcases Nat.lt_or_ge j l with hlt | hge
        · rw [ih j (by omega) hj, zero_gm]
        · rw [h2 l j (by omega) hj, gm_zero]] at hz
      rw [gm_comm] at hz
      exact gm_eq hz (h1 l hR)
  exact fun j hj => this (j + 1) j (by omega) hj
end
/-- The rows of Cauchy's matrix are independent. -/
theorem gi_sub {u v : UInt8} (hu : u ≠ 0) (hv : v ≠ 0) : gi u ^^^ gi v = gm (u ^^^ v) (gm (gi u) (gi v)) := by
  rw [xor_gm, ← gm_assoc, mul_gi hu, one_gm, gm_comm (gi u), ← gm_assoc, mul_gi hv, one_gm]
  exact UInt8.xor_comm _ _
theorem cauchyLI : ∀ (n : Nat) (x y : Nat → UInt8), (∀ i j, i < n → j < n → i ≠ j → x i ≠ x j) → (∀ i j, i < n → j < n → i ≠ j → y i ≠ y j) → (∀ i j, i < n → j < n → x i ≠ y j) → LI n n (fun i j => gi (x i ^^^ y j))
  | 0, x, y, _, _, _ => fun c _ j hj => by omega
  | n + 1, x, y, hx, hy, hxy => by
    intro c hc
    obtain ⟨d, hd⟩ : ∃ d : Nat → UInt8, ∀ i, d i = gm (c i) (x n ^^^ x i) := ⟨_, fun _ => rfl⟩
    obtain ⟨K, hK⟩ : ∃ K, sm (n + 1) c = K := ⟨_, rfl⟩
    have e1 : ∀ j, j < n + 1 → K ^^^ sm n (fun i => gm (d i) (gi (x i ^^^ y j))) = 0 := by
      intro j hj
      have h0 := congrArg (gm (x n ^^^ y j)) (hc j hj)
      have hn0 := x_ne (hxy n j (by omega) hj)
      rw [gm_zero] at h0
      unfold sm at h0
      dsimp only at h0
      rw [gm_xor, gm_comm (c n), ← gm_assoc, mul_gi hn0, one_gm, sm_mul] at h0
      rw [← h0, ← hK]
      show (sm n c ^^^ c n) ^^^ _ = _
      have e2 : sm n (fun i => gm (x n ^^^ y j) (gm (c i) (gi (x i ^^^ y j)))) = sm n c ^^^ sm n (fun i => gm (d i) (gi (x i ^^^ y j))) := by
        rw [← sm_xor]
        refine sm_congr fun i hi => ?_
        have hi0 := x_ne (hxy i j (by omega) hj)
        rw [hd, gm_assoc, ← gm_assoc (x n ^^^ y j), gm_comm (x n ^^^ y j), gm_assoc]
        have e3 : gm (x n ^^^ y j) (gi (x i ^^^ y j)) = 1 ^^^ gm (x n ^^^ x i) (gi (x i ^^^ y j)) := by
          rw [← mul_gi hi0, ← xor_gm]
          congr 1
          rw [show x i ^^^ y j ^^^ (x n ^^^ x i) = (x i ^^^ x i) ^^^ (x n ^^^ y j) by ac_rfl, x_self, z_xor]
        rw [e3, gm_xor, gm_one]
      rw [e2]
      ac_rfl
    have hn : ∀ i, i < n → c i = 0 := by
      intro i hi
      have hLI := cauchyLI n x y (fun i j hi hj => hx i j (by omega) (by omega)) (fun i j hi hj => hy i j (by omega) (by omega)) (fun i j hi hj => hxy i j (by omega) (by omega))
      have hz := hLI (fun i => gm (d i) (gi (x i ^^^ y n))) (fun j hj => ?_) i hi
      · have hg := gi_ne (x_ne (hxy i n (by omega) (by omega)))
        have hd0 : d i = 0 := gm_eq (by rw [gm_comm]; exact hz) hg
        rw [hd, gm_comm] at hd0
        exact gm_eq hd0 (x_ne (hx n i (by omega) (by omega) (by omega)))
      · have a1 := e1 j (by omega)
        have a2 := e1 n (by omega)
        have a3 : sm n (fun i => gm (d i) (gi (x i ^^^ y j))) ^^^ sm n (fun i => gm (d i) (gi (x i ^^^ y n))) = 0 := by
          rw [← x_eq a1, ← x_eq a2, x_self]
        rw [← sm_xor] at a3
        have hjn := x_ne (hy j n (by omega) (by omega) (by omega))
        refine gm_eq ?_ hjn
        rw [sm_mul, ← a3]
        refine sm_congr fun i hi => ?_
        rw [← gm_xor, gi_sub (x_ne (hxy i j (by omega) (by omega))) (x_ne (hxy i n (by omega) (by omega)))]
        rw [show x i ^^^ y j ^^^ (x i ^^^ y n) = (x i ^^^ x i) ^^^ (y j ^^^ y n) by ac_rfl, x_self, z_xor]
        rw [gm_assoc, ← gm_assoc, ← gm_assoc, gm_comm (y j ^^^ y n) (d i), gm_assoc, gm_assoc, gm_comm (gi (x i ^^^ y j))]
    intro j hj
    by_cases hjn : j = n
    · subst hjn
      have h0 := hc j (by omega)
      unfold sm at h0
      dsimp only at h0
      rw [sm_zero fun i hi => by rw [hn i hi, zero_gm], z_xor, gm_comm] at h0
      exact gm_eq h0 (gi_ne (x_ne (hxy j j (by omega) (by omega))))
    · exact hn j (by omega)
end Lin

end
/-! LinE -/
section
set_option linter.unusedVariables false
set_option linter.unusedSimpArgs false
namespace Lin
/-- A matrix at work: of col columns r are clean. -/
structure Elm (R W : Nat) (T0 : Nat → Nat → UInt8) (col r : Nat) (T : Nat → Nat → UInt8) : Prop where
  sp1 : Spans R W T0 R T
  sp2 : Spans R W T R T0
  rle : r ≤ R
  piv : ∃ p : Nat → Nat, (∀ l, l < r → p l < col) ∧ (∀ l l', l < l' → l' < r → p l < p l') ∧ ∀ l i, l < r → i < R → T i (p l) = dl i l
  low : ∀ i k, r ≤ i → i < R → k < col → T i k = 0
section
variable {R W col r : Nat} {T0 T T' : Nat → Nat → UInt8}
theorem Elm.start : Elm R W T0 0 0 T0 := ⟨Spans.refl, Spans.refl, Nat.zero_le _, ⟨fun _ => 0, fun l h => by omega, fun l l' _ h => by omega, fun l i h => by omega⟩, fun i k _ _ h => by omega⟩
theorem Elm.skip (h : Elm R W T0 col r T) (hz : ∀ i, r ≤ i → i < R → T i col = 0) : Elm R W T0 (col + 1) r T := by
  obtain ⟨p, h1, h2, h3⟩ := h.piv
  refine ⟨h.sp1, h.sp2, h.rle, ⟨p, fun l hl => by have := h1 l hl; omega, h2, h3⟩, fun i k hi hR hk => ?_⟩
  by_cases e : k = col
  · rw [e]
    exact hz i hi hR
  · exact h.low i k hi hR (by omega)
theorem Elm.full (h : Elm R W T0 col R T) {col' : Nat} (hc : col ≤ col') : Elm R W T0 col' R T := by
  obtain ⟨p, h1, h2, h3⟩ := h.piv
  exact ⟨h.sp1, h.sp2, h.rle, ⟨p, fun l hl => by have := h1 l hl; omega, h2, h3⟩, fun i k hi hR hk => by omega⟩
/-- Two rows in each other's place. -/
def sw (a b i : Nat) : Nat := if i = a then b else if i = b then a else i
theorem sw_sw (a b i : Nat) : sw a b (sw a b i) = i := by
  unfold sw
  by_cases h1 : i = a
  · rw [if_pos h1]
    by_cases h3 : b = a
    · rw [if_pos h3]
      omega
    · rw [if_neg h3, if_pos rfl]
      omega
  · by_cases h2 : i = b
    · rw [if_neg h1, if_pos h2, if_pos rfl]
      omega
    · rw [if_neg h1, if_neg h2, if_neg h1, if_neg h2]
theorem sw_lt {a b i : Nat} (ha : a < R) (hb : b < R) (hi : i < R) : sw a b i < R := by
  unfold sw
  split
  · exact hb
  · split
    · exact ha
    · exact hi
theorem Elm.step (h : Elm R W T0 col r T) (hr : r < R) {q : Nat} (hq1 : r ≤ q) (hq : q < R) (hne : T q col ≠ 0) (hW : col < W)
    (ht : ∀ k, k < W → T' r k = gm (gi (T q col)) (T q k)) (ho : ∀ i k, i < R → i ≠ r → k < W → T' i k = T (sw r q i) k ^^^ gm (T (sw r q i) col) (T' r k)) : Elm R W T0 (col + 1) (r + 1) T' := by
  have hsr : sw r q r = q := if_pos rfl
  have low' : ∀ i k, r ≤ i → i < R → k < col → T (sw r q i) k = 0 := fun i k hi hR hk => h.low _ k (by unfold sw; split; omega; split <;> omega) (sw_lt hr hq hR) hk
  have hrow0 : ∀ k, k < col → T' r k = 0 := fun k hk => by rw [ht k (by omega), h.low q k hq1 hq hk, gm_zero]
  have s1 : Spans R W T R T' := fun i hi => by
    have hr' : Spn R W T (T' r) := ((Spn.row (M := T) hq).smul (gi (T q col))).congr ht
    by_cases e : i = r
    · rw [e]
      exact hr'
    · exact ((Spn.row (M := T) (sw_lt hr hq hi)).add (hr'.smul (T (sw r q i) col))).congr fun k hk => ho i k hi e hk
  have hqrow : Spn R W T' (T q) := ((Spn.row (M := T') hr).smul (T q col)).congr fun k hk => by rw [ht k hk, ← gm_assoc, mul_gi hne, one_gm]
  have s2 : Spans R W T' R T := fun i hi => by
    by_cases e : sw r q i = r
    · have : i = q := by rw [← sw_sw r q i, e, hsr]
      rw [this]
      exact hqrow
    · have : Spn R W T' (fun k => T' (sw r q i) k ^^^ gm (T (sw r q (sw r q i)) col) (T' r k)) := (Spn.row (M := T') (sw_lt hr hq hi)).add ((Spn.row (M := T') hr).smul (T (sw r q (sw r q i)) col))
      refine this.congr fun k hk => ?_
      show T i k = T' (sw r q i) k ^^^ gm (T (sw r q (sw r q i)) col) (T' r k)
      rw [ho _ k (sw_lt hr hq hi) e hk, UInt8.xor_assoc, x_self, x_zero, sw_sw]
  obtain ⟨p, h1, h2, h3⟩ := h.piv
  have hcol : ∀ i, i < R → T' i col = dl i r := fun i hi => by
    by_cases e : i = r
    · rw [e, ht col hW, gi_mul hne, dl_same]
    · rw [ho i col hi e hW, ht col hW, gi_mul hne, gm_one, x_self, dl_ne e]
  refine ⟨h.sp1.trans s1, s2.trans h.sp2, hr, ⟨fun l => if l = r then col else p l, fun l hl => ?_, fun l l' hl hl' => ?_, fun l i hl hi => ?_⟩, fun i k hi hR hk => ?_⟩
  · show (if l = r then col else p l) < col + 1
    split
    · omega
    · have := h1 l (by omega)
      omega
  · show (if l = r then col else p l) < (if l' = r then col else p l')
    rw [if_neg (by omega)]
    split
    · exact h1 l (by omega)
    · exact h2 l l' hl (by omega)
  · show T' i (if l = r then col else p l) = dl i l
    split
    · rename_i e
      rw [e]
      exact hcol i hi
    · have hlr : l < r := by omega
      have hp := h1 l hlr
      have hz : T' r (p l) = 0 := hrow0 _ hp
      by_cases e : i = r
      · rw [e, hz, dl_ne (by omega)]
      · rw [ho i _ hi e (by omega), hz, gm_zero, x_zero, h3 l _ hlr (sw_lt hr hq hi)]
        unfold dl sw
        rw [if_neg e]
        by_cases e2 : i = q
        · rw [if_pos e2, if_neg (by omega), if_neg (by omega)]
        · rw [if_neg e2]
  · by_cases e : k = col
    · rw [e, hcol i hR, dl_ne (by omega)]
    · rw [ho i k hR (by omega) (by omega), hrow0 k (by omega), gm_zero, x_zero]
      exact low' i k (by omega) hR (by omega)
theorem Elm.rank {C : Nat} (h : Elm R W T0 C r T) (hC : C ≤ W) : Rk R C T0 r := by
  obtain ⟨p, h1, h2, h3⟩ := h.piv
  refine ⟨⟨T, fun i hi => ((h.sp2 i hi).less hC).cutZ h.rle fun i k h1 h2 h3 => h.low i k h1 h2 h3⟩, T, fun i hi => (h.sp1 i (by have := h.rle; omega)).less hC, ?_⟩
  refine LI.stairs (a := p) h1 (fun l hl => ?_) (fun l j hlj hj => ?_)
  · rw [h3 l l hl (by have := h.rle; omega), dl_same]
    decide
  · rw [h3 l j (by omega) (by have := h.rle; omega), dl_ne (by omega)]
end
/-- One is the other's inverse, from both sides. -/
structure Inv (n : Nat) (M X : Nat → Nat → UInt8) : Prop where
  l : ∀ i k, i < n → k < n → sm n (fun j => gm (X i j) (M j k)) = dl i k
  r : ∀ i k, i < n → k < n → sm n (fun j => gm (M i j) (X j k)) = dl i k
theorem climb {n : Nat} {p : Nat → Nat} (h1 : ∀ l, l < n → p l < n) (h2 : ∀ l l', l < l' → l' < n → p l < p l') : ∀ l, l < n → p l = l := by
  have lo : ∀ l, l < n → l ≤ p l := by
    intro l
    induction l with
    | zero => intro _; omega
    | succ l ih =>
      intro hl
      have := ih (by omega)
      have := h2 l (l + 1) (by omega) hl
      omega
  have hi : ∀ d l, l + d + 1 = n → p l ≤ l := by
    intro d
    induction d with
    | zero => intro l hl; have := h1 l (by omega); omega
    | succ d ih =>
      intro l hl
      have := ih (l + 1) (by omega)
      have := h2 l (l + 1) (by omega) (by omega)
      omega
  intro l hl
  have := lo l hl
  have := hi (n - l - 1) l (by omega)
  omega
theorem Elm.inv {n : Nat} {T0 T : Nat → Nat → UInt8} (h : Elm n (n + n) T0 n n T) (hb : ∀ i k, i < n → k < n → T0 i (n + k) = dl i k) : Inv n T0 (fun i k => T i (n + k)) := by
  obtain ⟨p, h1, h2, h3⟩ := h.piv
  have hp := climb h1 h2
  have hT : ∀ i k, i < n → k < n → T i k = dl i k := fun i k hi hk => by
    have := h3 k i hk hi
    rw [hp k hk] at this
    exact this
  refine ⟨fun i k hi hk => ?_, fun i k hi hk => ?_⟩
  · obtain ⟨c, hc⟩ := h.sp1 i hi
    have hci : ∀ j, j < n → T i (n + j) = c j := fun j hj => by
      rw [hc (n + j) (by omega)]
      rw [sm_congr fun l hl => by rw [hb l j hl hj]]
      exact sm_dl' hj c
    rw [← hT i k hi hk, hc k (by omega)]
    exact sm_congr fun j hj => by rw [hci j hj]
  · obtain ⟨c, hc⟩ := h.sp2 i hi
    have hci : ∀ j, j < n → T0 i j = c j := fun j hj => by
      rw [hc j (by omega)]
      rw [sm_congr fun l hl => by rw [hT l j hl hj]]
      exact sm_dl' hj c
    rw [← hb i k hi hk, hc (n + k) (by omega)]
    exact sm_congr fun j hj => by rw [hci j hj]
/-- Products. -/
def mm (n : Nat) (A B : Nat → Nat → UInt8) : Nat → Nat → UInt8 := fun i k => sm n (fun j => gm (A i j) (B j k))
theorem mm_assoc (n m : Nat) (A B D : Nat → Nat → UInt8) (i k : Nat) : mm m (mm n A B) D i k = mm n A (mm m B D) i k := by
  unfold mm
  have e1 : sm m (fun j => gm (sm n (fun l => gm (A i l) (B l j))) (D j k)) = sm m (fun j => sm n (fun l => gm (A i l) (gm (B l j) (D j k)))) :=
    sm_congr fun j _ => by
      rw [mul_sm]
      exact sm_congr fun l _ => gm_assoc _ _ _
  rw [e1, sm_comm]
  exact sm_congr fun l _ => (sm_mul _ _ _).symm
theorem mm_congr {n : Nat} {A A' B B' : Nat → Nat → UInt8} {i k : Nat} (h1 : ∀ j, j < n → A i j = A' i j) (h2 : ∀ j, j < n → B j k = B' j k) : mm n A B i k = mm n A' B' i k :=
  sm_congr fun j hj => by rw [h1 j hj, h2 j hj]
theorem mm_one {n : Nat} {A B : Nat → Nat → UInt8} {i k : Nat} (hi : i < n) (h : ∀ j, j < n → A i j = dl i j) : mm n A B i k = B i k := by
  unfold mm
  rw [sm_congr fun j hj => by rw [h j hj]]
  exact sm_dl hi fun j => B j k
theorem one_mm {n : Nat} {A B : Nat → Nat → UInt8} {i k : Nat} (hk : k < n) (h : ∀ j, j < n → B j k = dl j k) : mm n A B i k = A i k := by
  unfold mm
  rw [sm_congr fun j hj => by rw [h j hj]]
  exact sm_dl' hk fun j => A i j
section
variable {n : Nat} {M X Y A B P Q : Nat → Nat → UInt8}
theorem Inv.unique (h : Inv n M X) (hY : ∀ i k, i < n → k < n → mm n Y M i k = dl i k) {i k : Nat} (hi : i < n) (hk : k < n) : Y i k = X i k := by
  have e := mm_assoc n n Y M X i k
  rw [mm_one hi (fun j hj => hY i j hi hj)] at e
  rw [e]
  exact (one_mm hk fun j hj => h.r j k hj hk).symm
theorem LI.one (n : Nat) : LI n n dl := LI.stairs (a := id) (fun l h => h) (fun l _ => by show dl l l ≠ 0; rw [dl_same]; decide) (fun l j h _ => dl_ne (by show j ≠ l; omega))
theorem Inv.ind (h : Inv n M X) : Ind n n M n := ⟨dl, fun i hi => ⟨X i, fun k hk => (h.l i k hi hk).symm⟩, LI.one n⟩
/-- What has an inverse has full rank. -/
theorem Inv.full {r : Nat} (h : Inv n M X) (g : Rk n n M r) : r = n := Nat.le_antisymm g.le_rows (h.ind.le g.1)
theorem Inv.mul (h : Inv n A P) (g : Inv n B Q) : Inv n (mm n A B) (mm n Q P) := by
  refine ⟨fun i k hi hk => ?_, fun i k hi hk => ?_⟩
  · show mm n (mm n Q P) (mm n A B) i k = _
    rw [mm_assoc]
    have : mm n Q (mm n P (mm n A B)) i k = mm n Q B i k := mm_congr (fun _ _ => rfl) fun j hj => by
      rw [← mm_assoc]
      exact mm_one hj fun l hl => h.l j l hj hl
    rw [this]
    exact g.l i k hi hk
  · show mm n (mm n A B) (mm n Q P) i k = _
    rw [mm_assoc]
    have : mm n A (mm n B (mm n Q P)) i k = mm n A P i k := mm_congr (fun _ _ => rfl) fun j hj => by
      rw [← mm_assoc]
      exact mm_one hj fun l hl => g.r j l hj hl
    rw [this]
    exact h.r i k hi hk
theorem Inv.congr (h : Inv n M X) (hM : ∀ i k, i < n → k < n → A i k = M i k) (hX : ∀ i k, i < n → k < n → Y i k = X i k) : Inv n A Y :=
  ⟨fun i k hi hk => by rw [sm_congr fun j hj => by rw [hX i j hi hj, hM j k hj hk]]; exact h.l i k hi hk, fun i k hi hk => by rw [sm_congr fun j hj => by rw [hX j k hj hk, hM i j hi hj]]; exact h.r i k hi hk⟩
/-- Independent rows have full rank. -/
theorem LI.full {r : Nat} (h : LI n n M) (g : Rk n n M r) : r = n := Nat.le_antisymm g.le_rows (Ind.le (⟨M, Spans.refl, h⟩ : Ind n n M n) g.1)
end
end Lin

end
