/- The check sum as plain Lean: registers of 32 bits, and what many noughts make of them. Nothing about the program. -/
namespace Crc
def poly : BitVec 32 := 0x82f63b78#32
def step (c : BitVec 32) : BitVec 32 := (c >>> 1) ^^^ (0x82f63b78#32 &&& -(c &&& 1#32))
def steps : Nat → BitVec 32 → BitVec 32
  | 0, c => c
  | n + 1, c => step (steps n c)
def eat (c : BitVec 32) (b : UInt8) : BitVec 32 := steps 8 (c ^^^ BitVec.ofNat 32 b.toNat)
def through (c : BitVec 32) (bs : List UInt8) : BitVec 32 := bs.foldl eat c
def more (s : BitVec 32) (bs : List UInt8) : BitVec 32 := ~~~ through (~~~ s) bs
theorem through_snoc (c : BitVec 32) (bs : List UInt8) (k : Nat) (h : k < bs.length) : through c (bs.take (k + 1)) = eat (through c (bs.take k)) bs[k] := by
  unfold through
  rw [List.take_succ_eq_append_getElem h, List.foldl_append]
  rfl
theorem through_append (c : BitVec 32) (xs ys : List UInt8) : through c (xs ++ ys) = through (through c xs) ys := by
  unfold through
  rw [List.foldl_append]
/-! ### step is linear -/
theorem step_eq (c : BitVec 32) : step c = (c >>> 1) ^^^ (if c.getLsbD 0 then poly else 0#32) := by
  unfold step poly
  rw [BitVec.and_one_eq_setWidth_ofBool_getLsbD]
  cases c.getLsbD 0 <;> simp <;> decide
theorem step_xor (x y : BitVec 32) : step (x ^^^ y) = step x ^^^ step y := by
  simp only [step_eq, BitVec.ushiftRight_xor_distrib, BitVec.getLsbD_xor]
  cases x.getLsbD 0 <;> cases y.getLsbD 0 <;> simp
  · rw [BitVec.xor_assoc]
  · rw [BitVec.xor_assoc, BitVec.xor_assoc]; congr 1; rw [BitVec.xor_comm]
  · have : ∀ a b p : BitVec 32, a ^^^ b = a ^^^ p ^^^ (b ^^^ p) := by
      intro a b p
      rw [show a ^^^ p ^^^ (b ^^^ p) = a ^^^ b ^^^ (p ^^^ p) from by ac_rfl]
      simp
    exact this _ _ _
theorem step_zero : step 0#32 = 0#32 := by decide
theorem steps_xor (k : Nat) (x y : BitVec 32) : steps k (x ^^^ y) = steps k x ^^^ steps k y := by
  induction k with
  | zero => rfl
  | succ k ih => simp only [steps, ih, step_xor]
theorem steps_zero (k : Nat) : steps k 0#32 = 0#32 := by
  induction k with
  | zero => rfl
  | succ k ih => simp only [steps, ih, step_zero]
theorem steps_add (j k : Nat) (x : BitVec 32) : steps (j + k) x = steps j (steps k x) := by
  induction j with
  | zero => simp [steps]
  | succ j ih => rw [Nat.add_right_comm]; simp only [steps, ih]
/-! ### so many noughts -/
def Z (k : Nat) (c : BitVec 32) : BitVec 32 := steps (8 * k) c
theorem Z_xor (k : Nat) (x y : BitVec 32) : Z k (x ^^^ y) = Z k x ^^^ Z k y := steps_xor _ x y
theorem Z_zero (k : Nat) : Z k 0#32 = 0#32 := steps_zero _
theorem Z_none (c : BitVec 32) : Z 0 c = c := rfl
theorem Z_add (j k : Nat) (c : BitVec 32) : Z (j + k) c = Z j (Z k c) := by
  unfold Z
  rw [Nat.mul_add, steps_add]
theorem Z_one (c : BitVec 32) : Z 1 c = eat c 0 := by simp [Z, eat]
theorem Z_comm (j k : Nat) (c : BitVec 32) : Z j (Z k c) = Z k (Z j c) := by rw [← Z_add, ← Z_add, Nat.add_comm]
theorem eat_eq (c : BitVec 32) (b : UInt8) : eat c b = Z 1 c ^^^ eat 0#32 b := by
  unfold eat Z
  rw [← steps_xor]
  simp
theorem through_eq (c : BitVec 32) (bs : List UInt8) : through c bs = Z bs.length c ^^^ through 0#32 bs := by
  induction bs generalizing c with
  | nil => simp [through, Z_none]
  | cons b bs ih =>
    have h1 : through c (b :: bs) = through (eat c b) bs := rfl
    have h2 : through 0#32 (b :: bs) = through (eat 0#32 b) bs := rfl
    rw [h1, h2, ih (eat c b), ih (eat 0#32 b), eat_eq c b, Z_xor, List.length_cons, Z_add]
    ac_rfl
theorem through_zeros (n : Nat) (c : BitVec 32) : through c (List.replicate n 0) = Z n c := by
  induction n generalizing c with
  | zero => rfl
  | succ n ih =>
    rw [List.replicate_succ]
    show through (eat c 0) _ = _
    rw [ih, ← Z_one, Z_add]
/-! ### a square: what a way makes of each bit -/
/-- the first k places of a square m, taken by the bits of c -/
def ofTo (m : Nat → BitVec 32) (c : BitVec 32) : Nat → BitVec 32
  | 0 => 0#32
  | k + 1 => ofTo m c k ^^^ (m k &&& -((c >>> k) &&& 1#32))
def bit (i : Nat) : BitVec 32 := 1#32 <<< i
theorem bit_int (k : Nat) (h : k < 32) : (2 : Int) ^ k % 4294967296 = ((bit k).toNat : Int) := by
  have h1 : ∀ k : Fin 32, (2 : Int) ^ k.val % 4294967296 = ((bit k.val).toNat : Int) := by decide
  exact h1 ⟨k, h⟩
theorem pick_eq (x c : BitVec 32) (k : Nat) : x &&& -((c >>> k) &&& 1#32) = if c.getLsbD k then x else 0#32 := by
  rw [BitVec.and_one_eq_setWidth_ofBool_getLsbD, BitVec.getLsbD_ushiftRight, Nat.add_zero]
  cases c.getLsbD k
  · simp
  · have : -(BitVec.setWidth 32 (BitVec.ofBool true)) = BitVec.allOnes 32 := by decide
    rw [this, BitVec.and_allOnes]
    simp
theorem bit_getLsbD (i j : Nat) (h : i < 32) : (bit i).getLsbD j = decide (i = j) := by
  unfold bit
  rw [BitVec.getLsbD_shiftLeft]
  by_cases hj : j < 32
  · by_cases e : i = j
    · subst e; simp [h]
    · by_cases l : j < i
      · simp [l, e]
      · have h1 : ¬ j - i = 0 := by omega
        simp [hj, l, e]; omega
  · have e : ¬ i = j := by omega
    simp [hj, e]
theorem ofTo_low (c : BitVec 32) : ∀ k, k ≤ 32 → ∀ j, (ofTo bit c k).getLsbD j = (decide (j < k) && c.getLsbD j)
  | 0, _, j => by simp [ofTo]
  | k + 1, hk, j => by
    rw [ofTo, pick_eq, BitVec.getLsbD_xor, ofTo_low c k (by omega) j]
    by_cases e : k = j
    · subst e
      by_cases b : c.getLsbD k <;> simp [b, bit_getLsbD k k (by omega)]
    · have h1 : decide (j < k + 1) = decide (j < k) := by simp; omega
      rw [h1]
      by_cases b : c.getLsbD k <;> simp [b, bit_getLsbD k j (by omega), e]
theorem ofTo_bit (c : BitVec 32) : ofTo bit c 32 = c := by
  apply BitVec.eq_of_getLsbD_eq
  intro i hi
  rw [ofTo_low c 32 (Nat.le_refl _) i]
  simp [hi]
theorem ofTo_map (F : BitVec 32 → BitVec 32) (h0 : F 0#32 = 0#32) (hx : ∀ x y, F (x ^^^ y) = F x ^^^ F y) (c : BitVec 32) :
    ∀ k, ofTo (fun i => F (bit i)) c k = F (ofTo bit c k)
  | 0 => h0.symm
  | k + 1 => by
    rw [ofTo, ofTo, ofTo_map F h0 hx c k, hx, pick_eq, pick_eq]
    by_cases b : c.getLsbD k <;> simp [b, h0]
theorem ofTo_way (k : Nat) (c : BitVec 32) : ofTo (fun i => Z k (bit i)) c 32 = Z k c := by
  rw [ofTo_map (Z k) (Z_zero k) (Z_xor k), ofTo_bit]
/-! ### bit by bit -/
def rb (c : BitVec 32) (b : UInt8) : Nat → BitVec 32
  | 0 => c
  | k + 1 => step (rb c b k ^^^ BitVec.ofNat 32 (b.toNat / 2 ^ k % 2))
theorem steps_bit (k t : Nat) (hk : k < 8) (ht : t < 2) : steps k (BitVec.ofNat 32 (t * 2 ^ k)) = BitVec.ofNat 32 t := by
  have h : ∀ (k : Fin 8) (t : Fin 2), steps k.val (BitVec.ofNat 32 (t.val * 2 ^ k.val)) = BitVec.ofNat 32 t.val := by decide
  exact h ⟨k, hk⟩ ⟨t, ht⟩
theorem join_bit (k r t : Nat) (hr : r < 2 ^ k) : BitVec.ofNat 32 (r + 2 ^ k * t) = BitVec.ofNat 32 r ^^^ BitVec.ofNat 32 (t * 2 ^ k) := by
  have h : r + 2 ^ k * t = r ^^^ (t * 2 ^ k) := by
    rw [Nat.mul_comm t, Nat.add_comm, Nat.two_pow_add_eq_or_of_lt hr]
    apply Nat.eq_of_testBit_eq
    intro i
    rw [Nat.testBit_or, Nat.testBit_xor, Nat.mul_comm, Nat.testBit_mul_two_pow]
    by_cases hi : k ≤ i
    · rw [Nat.testBit_lt_two_pow (Nat.lt_of_lt_of_le hr (Nat.pow_le_pow_right (by decide) hi))]
      simp
    · simp [hi]
  rw [h, BitVec.ofNat_xor]
theorem rb_eq (c : BitVec 32) (b : UInt8) : ∀ k, k ≤ 8 → rb c b k = steps k (c ^^^ BitVec.ofNat 32 (b.toNat % 2 ^ k))
  | 0, _ => by simp [rb, steps, Nat.mod_one]
  | k + 1, hk => by
    have h1 := rb_eq c b k (by omega)
    have h2 : b.toNat % 2 ^ (k + 1) = b.toNat % 2 ^ k + 2 ^ k * (b.toNat / 2 ^ k % 2) := by rw [Nat.pow_succ, Nat.mod_mul]
    have h3 := join_bit k (b.toNat % 2 ^ k) (b.toNat / 2 ^ k % 2) (Nat.mod_lt _ (Nat.two_pow_pos k))
    have h4 := steps_bit k (b.toNat / 2 ^ k % 2) (by omega) (Nat.mod_lt _ (by decide))
    rw [rb, h1, h2, h3, steps, ← BitVec.xor_assoc, steps_xor k (c ^^^ _), h4]
theorem rb_eat (c : BitVec 32) (b : UInt8) : rb c b 8 = eat c b := by
  rw [rb_eq c b 8 (Nat.le_refl _), Nat.mod_eq_of_lt (by have := b.toNat_lt; omega)]
  rfl
theorem step_low (c : BitVec 32) (t : Nat) (ht : t < 2) : step (c ^^^ BitVec.ofNat 32 t) = if t = c.toNat % 2 then c >>> 1 else (c >>> 1) ^^^ poly := by
  have h0 : c.getLsbD 0 = decide (c.toNat % 2 = 1) := by
    rw [BitVec.getLsbD, Nat.testBit_zero]
  have h2 : t = 0 ∨ t = 1 := by omega
  rw [step_xor, step_eq c, h0]
  rcases h2 with rfl | rfl
  · rw [show step (BitVec.ofNat 32 0) = 0#32 from by decide]
    by_cases e : c.toNat % 2 = 1
    · simp [e]
    · simp [show c.toNat % 2 = 0 from by omega]
  · rw [show step (BitVec.ofNat 32 1) = poly from by decide]
    by_cases e : c.toNat % 2 = 1
    · simp [e, BitVec.xor_assoc]
    · simp [show c.toNat % 2 = 0 from by omega]
end Crc
