/- What follows of the check sum in plain Lean: joined texts, changed texts, bursts. Nothing about the program. -/
import Derived.Test.YtmabmhiombnngaaCrcP
set_option linter.unusedVariables false
set_option linter.unusedSimpArgs false
namespace Crc
theorem not_eq_xor (x : BitVec 32) : ~~~ x = x ^^^ BitVec.allOnes 32 := by rw [BitVec.xor_allOnes]
theorem join_law (a b : List UInt8) : more 0#32 (a ++ b) = Z b.length (more 0#32 a) ^^^ more 0#32 b := by
  unfold more
  rw [through_append, through_eq (through (~~~ 0#32) a) b, through_eq (~~~ 0#32) b]
  generalize through (~~~ 0#32) a = t
  generalize through 0#32 b = u
  simp only [not_eq_xor, Z_xor]
  generalize Z b.length (BitVec.allOnes 32) = o
  generalize Z b.length t = v
  generalize BitVec.allOnes 32 = p
  rw [Z_zero]
  simp only [BitVec.zero_xor]
  have : v ^^^ o ^^^ (o ^^^ u ^^^ p) = v ^^^ u ^^^ p ^^^ (o ^^^ o) := by ac_rfl
  rw [this, BitVec.xor_self, BitVec.xor_zero]
theorem more_law (a b : List UInt8) : more 0#32 (a ++ b) = more (more 0#32 a) b := by
  unfold more
  rw [BitVec.not_not, through_append]
/-! ### a changed part -/
def xorL (q m : List UInt8) : List UInt8 := List.zipWith (· ^^^ ·) q m
theorem ofNat_xor8 (a b : UInt8) : BitVec.ofNat 32 (a ^^^ b).toNat = BitVec.ofNat 32 a.toNat ^^^ BitVec.ofNat 32 b.toNat := by
  rw [UInt8.toNat_xor, BitVec.ofNat_xor]
theorem eat_xor (x y : BitVec 32) (a b : UInt8) : eat (x ^^^ y) (a ^^^ b) = eat x a ^^^ eat y b := by
  unfold eat
  rw [← steps_xor, ofNat_xor8]
  congr 1
  ac_rfl
theorem through_xor (x y : BitVec 32) : ∀ (q m : List UInt8), q.length = m.length → through (x ^^^ y) (xorL q m) = through x q ^^^ through y m
  | [], [], _ => rfl
  | a :: q, b :: m, h => by
    show through (eat (x ^^^ y) (a ^^^ b)) (xorL q m) = through (eat x a) q ^^^ through (eat y b) m
    rw [eat_xor]
    exact through_xor (eat x a) (eat y b) q m (by simpa using h)
theorem change_law (p q r m : List UInt8) (h : q.length = m.length) : more 0#32 (p ++ (xorL q m ++ r)) = more 0#32 (p ++ (q ++ r)) ^^^ Z r.length (through 0#32 m) := by
  unfold more
  simp only [through_append]
  generalize through (~~~ 0#32) p = t
  have h1 := through_xor t 0#32 q m h
  rw [BitVec.xor_zero] at h1
  rw [h1, through_eq (through t q ^^^ through 0#32 m) r, through_eq (through t q) r, Z_xor]
  simp only [not_eq_xor]
  ac_rfl
/-! ### bit by bit, any bits -/
def feed (c : BitVec 32) (f : Nat → Nat) : Nat → BitVec 32
  | 0 => c
  | k + 1 => step (feed c f k ^^^ BitVec.ofNat 32 (f k))
theorem feed_congr (c : BitVec 32) (f g : Nat → Nat) : ∀ n, (∀ j, j < n → f j = g j) → feed c f n = feed c g n
  | 0, _ => rfl
  | n + 1, h => by rw [feed, feed, feed_congr c f g n (fun j hj => h j (by omega)), h n (by omega)]
theorem feed_add (c : BitVec 32) (f : Nat → Nat) (j : Nat) : ∀ k, feed c f (j + k) = feed (feed c f j) (fun i => f (j + i)) k
  | 0 => rfl
  | k + 1 => by rw [← Nat.add_assoc, feed, feed, feed_add c f j k]
theorem feed_rb (c : BitVec 32) (b : UInt8) : ∀ k, feed c (fun i => b.toNat / 2 ^ i % 2) k = rb c b k
  | 0 => rfl
  | k + 1 => by rw [feed, rb, feed_rb c b k]
def bitAt (bs : List UInt8) (j : Nat) : Nat := (bs.getD (j / 8) 0).toNat / 2 ^ (j % 8) % 2
theorem bitAt_cons (b : UInt8) (bs : List UInt8) (i : Nat) : bitAt (b :: bs) (8 + i) = bitAt bs i := by
  unfold bitAt
  rw [show (8 + i) / 8 = i / 8 + 1 from by omega, show (8 + i) % 8 = i % 8 from by omega]
  rfl
theorem through_feed (c : BitVec 32) (bs : List UInt8) : through c bs = feed c (bitAt bs) (8 * bs.length) := by
  induction bs generalizing c with
  | nil => rfl
  | cons b bs ih =>
    have h1 : feed c (bitAt (b :: bs)) 8 = eat c b := by
      rw [← rb_eat, ← feed_rb]
      apply feed_congr
      intro j hj
      unfold bitAt
      rw [show j / 8 = 0 from by omega, show j % 8 = j from by omega]
      rfl
    rw [show 8 * (b :: bs).length = 8 + 8 * bs.length from by simp; omega, feed_add, h1]
    show through (eat c b) bs = _
    rw [ih]
    exact feed_congr _ _ _ _ fun j _ => (bitAt_cons b bs j).symm
theorem bit_xor (a b : Nat) (ha : a < 2) (hb : b < 2) : BitVec.ofNat 32 ((a + b) % 2) = BitVec.ofNat 32 a ^^^ BitVec.ofNat 32 b := by
  have h : ∀ a b : Fin 2, BitVec.ofNat 32 ((a.val + b.val) % 2) = BitVec.ofNat 32 a.val ^^^ BitVec.ofNat 32 b.val := by decide
  exact h ⟨a, ha⟩ ⟨b, hb⟩
theorem feed_xor (x y : BitVec 32) (f g : Nat → Nat) (hf : ∀ j, f j < 2) (hg : ∀ j, g j < 2) : ∀ n, feed (x ^^^ y) (fun j => (f j + g j) % 2) n = feed x f n ^^^ feed y g n
  | 0 => rfl
  | n + 1 => by
    rw [feed, feed, feed, feed_xor x y f g hf hg n, bit_xor _ _ (hf n) (hg n), ← step_xor]
    congr 1
    ac_rfl
theorem steps_bit32 (k t : Nat) (hk : k < 32) (ht : t < 2) : steps k (BitVec.ofNat 32 (t * 2 ^ k)) = BitVec.ofNat 32 t := by
  have h : ∀ (k : Fin 32) (t : Fin 2), steps k.val (BitVec.ofNat 32 (t.val * 2 ^ k.val)) = BitVec.ofNat 32 t.val := by decide +kernel
  exact h ⟨k, hk⟩ ⟨t, ht⟩
theorem feed_mask (m : Nat) : ∀ k, k ≤ 32 → feed 0#32 (fun i => m / 2 ^ i % 2) k = steps k (BitVec.ofNat 32 (m % 2 ^ k))
  | 0, _ => by simp [feed, steps, Nat.mod_one]
  | k + 1, hk => by
    have h2 : m % 2 ^ (k + 1) = m % 2 ^ k + 2 ^ k * (m / 2 ^ k % 2) := by rw [Nat.pow_succ, Nat.mod_mul]
    have h3 := join_bit k (m % 2 ^ k) (m / 2 ^ k % 2) (Nat.mod_lt _ (Nat.two_pow_pos k))
    have h4 := steps_bit32 k (m / 2 ^ k % 2) (by omega) (Nat.mod_lt _ (by decide))
    rw [feed, feed_mask m k (by omega), h2, h3, steps, steps_xor k, h4]
theorem feed_none (c : BitVec 32) (f : Nat → Nat) : ∀ n, (∀ j, j < n → f j = 0) → feed c f n = steps n c
  | 0, _ => rfl
  | n + 1, h => by
    rw [feed, feed_none c f n (fun j hj => h j (by omega)), h n (by omega), steps]
    simp
/-! ### step has an inverse: what isn't nought stays so -/
theorem step_zero_of (c : BitVec 32) (h : step c = 0#32) : c = 0#32 := by
  rw [step_eq] at h
  have h31 : (step c).getLsbD 31 = false := by rw [step_eq, h]; simp
  have hb : c.getLsbD 0 = false := by
    rw [step_eq, BitVec.getLsbD_xor, BitVec.getLsbD_ushiftRight] at h31
    cases hc : c.getLsbD 0
    · rfl
    · rw [hc] at h31
      rw [BitVec.getLsbD_of_ge c (1 + 31) (by decide)] at h31
      revert h31
      decide
  rw [hb] at h
  simp at h
  apply BitVec.eq_of_getLsbD_eq
  intro i hi
  rcases Nat.eq_zero_or_pos i with rfl | hp
  · rw [hb]; simp
  · have h1 : (c >>> 1).getLsbD (i - 1) = false := by rw [h]; simp
    rw [BitVec.getLsbD_ushiftRight, show 1 + (i - 1) = i from by omega] at h1
    simp [h1]
theorem steps_zero_of (n : Nat) (c : BitVec 32) (h : steps n c = 0#32) : c = 0#32 := by
  induction n with
  | zero => exact h
  | succ n ih => exact ih (step_zero_of _ h)
/-- bits of a mask that begin at place from -/
def lay (from_ m : Nat) (k : Nat) (j : Nat) : Nat := if from_ ≤ j ∧ j < from_ + k then m / 2 ^ (j - from_) % 2 else 0
theorem feed_lay (a m n : Nat) (hm : m < 4294967296) (hn : a + 32 ≤ n) (h0 : m ≠ 0) : feed 0#32 (lay a m 32) n ≠ 0#32 := by
  have h1 : feed 0#32 (lay a m 32) a = 0#32 := by
    rw [feed_none _ (lay a m 32) _ (fun j hj => if_neg (by omega)), steps_zero]
  have h2 : feed 0#32 (lay a m 32) (a + 32) = steps 32 (BitVec.ofNat 32 m) := by
    rw [feed_add, h1, feed_congr 0#32 _ (fun i => m / 2 ^ i % 2) 32 (fun j hj => by
      show lay a m 32 (a + j) = _
      unfold lay
      rw [if_pos (by omega), Nat.add_sub_cancel_left]), feed_mask m 32 (Nat.le_refl _), Nat.mod_eq_of_lt (by omega)]
  obtain ⟨k, rfl⟩ : ∃ k, n = a + 32 + k := ⟨n - (a + 32), by omega⟩
  rw [feed_add, h2, feed_none _ (fun i => lay a m 32 (a + 32 + i)) _ (fun j hj => if_neg (by omega)), ← steps_add]
  intro h
  have := steps_zero_of _ _ h
  have h3 : (BitVec.ofNat 32 m).toNat = 0 := by rw [this]; rfl
  rw [BitVec.toNat_ofNat, Nat.mod_eq_of_lt (by omega)] at h3
  exact h0 h3
theorem bitAt_lt (bs : List UInt8) (j : Nat) : bitAt bs j < 2 := Nat.mod_lt _ (by decide)
theorem lay_lt (a m k j : Nat) : lay a m k j < 2 := by
  unfold lay
  split
  · exact Nat.mod_lt _ (by decide)
  · decide
theorem burst_law (bs cs : List UInt8) (a m : Nat) (hl : cs.length = bs.length) (hm : m < 4294967296) (h0 : m ≠ 0) (ha : a + 32 ≤ 8 * bs.length)
    (h : ∀ j, j < 8 * bs.length → bitAt cs j = (bitAt bs j + lay a m 32 j) % 2) : more 0#32 cs ≠ more 0#32 bs := by
  intro he
  unfold more at he
  have he2 : through (~~~ 0#32) cs = through (~~~ 0#32) bs := by
    have := congrArg (fun x => ~~~ x) he
    simpa using this
  rw [through_feed, through_feed, hl, feed_congr _ _ _ _ h] at he2
  have hx := feed_xor (~~~ 0#32) 0#32 (bitAt bs) (lay a m 32) (bitAt_lt bs) (lay_lt a m 32) (8 * bs.length)
  rw [BitVec.xor_zero, he2] at hx
  have : feed 0#32 (lay a m 32) (8 * bs.length) = 0#32 := by
    have h2 := congrArg (fun x => feed (~~~ 0#32) (bitAt bs) (8 * bs.length) ^^^ x) hx
    simp only [BitVec.xor_self] at h2
    rw [← BitVec.xor_assoc, BitVec.xor_self, BitVec.zero_xor] at h2
    exact h2.symm
  exact feed_lay a m _ hm ha h0 this
/-- One bit of a text turned. -/
def flip (cs : List UInt8) (j : Nat) : List UInt8 := cs.set (j / 8) (cs.getD (j / 8) 0 ^^^ UInt8.ofNat (2 ^ (j % 8)))
theorem flip_length (cs : List UInt8) (j : Nat) : (flip cs j).length = cs.length := by simp [flip]
theorem byte_bit (x : UInt8) (r k : Nat) (hr : r < 8) (hk : k < 8) : (x ^^^ UInt8.ofNat (2 ^ r)).toNat / 2 ^ k % 2 = (x.toNat / 2 ^ k % 2 + if k = r then 1 else 0) % 2 := by
  have h2 : (UInt8.ofNat (2 ^ r)).toNat = 2 ^ r := by
    rw [UInt8.toNat_ofNat']
    have : 2 ^ r < 2 ^ 8 := Nat.pow_lt_pow_right (by decide) hr
    exact Nat.mod_eq_of_lt this
  have ht : ∀ n k : Nat, n / 2 ^ k % 2 = (n.testBit k).toNat := fun n k => by
    rw [Nat.testBit_eq_decide_div_mod_eq]
    have := Nat.mod_lt (n / 2 ^ k) (show 0 < 2 by decide)
    rcases Nat.mod_two_eq_zero_or_one (n / 2 ^ k) with e | e <;> simp [e]
  rw [ht, ht, UInt8.toNat_xor, h2, Nat.testBit_xor, Nat.testBit_two_pow]
  by_cases e : k = r
  · subst e
    cases x.toNat.testBit k <;> simp
  · have e' : ¬ r = k := fun h => e h.symm
    cases x.toNat.testBit k <;> simp [e, e']
theorem bitAt_flip (cs : List UInt8) (j i : Nat) (hj : j < 8 * cs.length) : bitAt (flip cs j) i = (bitAt cs i + if i = j then 1 else 0) % 2 := by
  unfold bitAt flip
  by_cases e : i / 8 = j / 8
  · have hg : (cs.set (j / 8) (cs.getD (j / 8) 0 ^^^ UInt8.ofNat (2 ^ (j % 8)))).getD (i / 8) 0 = cs.getD (i / 8) 0 ^^^ UInt8.ofNat (2 ^ (j % 8)) := by
      rw [e]
      have hlt : j / 8 < cs.length := by omega
      simp [List.getD, List.getElem?_set, hlt]
    rw [hg, byte_bit _ _ _ (Nat.mod_lt _ (by decide)) (Nat.mod_lt _ (by decide))]
    have : (i % 8 = j % 8) = (i = j) := by
      apply propext
      omega
    simp only [this]
  · have hne : ¬ i = j := fun h => e (by rw [h])
    have hg : (cs.set (j / 8) (cs.getD (j / 8) 0 ^^^ UInt8.ofNat (2 ^ (j % 8)))).getD (i / 8) 0 = cs.getD (i / 8) 0 := by
      have e' : ¬ j / 8 = i / 8 := fun h => e h.symm
      simp [List.getD, List.getElem?_set, e']
    rw [hg, if_neg hne, Nat.add_zero]
    omega
/-- The first k bits of a mask, turned from place a on. -/
def burst (bs : List UInt8) (a m : Nat) : Nat → List UInt8
  | 0 => bs
  | k + 1 => if m / 2 ^ k % 2 = 1 then flip (burst bs a m k) (a + k) else burst bs a m k
theorem burst_length (bs : List UInt8) (a m : Nat) : ∀ k, (burst bs a m k).length = bs.length
  | 0 => rfl
  | k + 1 => by
    rw [burst]
    split
    · rw [flip_length, burst_length bs a m k]
    · exact burst_length bs a m k
theorem bitAt_burst (bs : List UInt8) (a m : Nat) : ∀ k, a + k ≤ 8 * bs.length → ∀ j, bitAt (burst bs a m k) j = (bitAt bs j + lay a m k j) % 2
  | 0, _, j => by
    have := bitAt_lt bs j
    simp only [burst, lay]
    rw [if_neg (by omega)]
    omega
  | k + 1, hk, j => by
    have ih := bitAt_burst bs a m k (by omega) j
    rw [burst]
    by_cases e : m / 2 ^ k % 2 = 1
    · rw [if_pos e, bitAt_flip _ _ _ (by rw [burst_length]; omega), ih]
      unfold lay
      by_cases hj : j = a + k
      · subst hj
        rw [if_pos rfl, if_neg (by omega), if_pos (by omega), Nat.add_sub_cancel_left, e]
        omega
      · rw [if_neg hj]
        by_cases hin : a ≤ j ∧ j < a + k
        · rw [if_pos hin, if_pos (by omega)]
          omega
        · rw [if_neg hin, if_neg (by omega)]
          omega
    · rw [if_neg e, ih]
      unfold lay
      by_cases hj : j = a + k
      · subst hj
        rw [if_neg (by omega), if_pos (by omega), Nat.add_sub_cancel_left, show m / 2 ^ k % 2 = 0 from by omega]
      · by_cases hin : a ≤ j ∧ j < a + k
        · rw [if_pos hin, if_pos (by omega)]
        · rw [if_neg hin, if_neg (by omega)]
theorem burst_sum (bs : List UInt8) (a m : Nat) (hm : m < 4294967296) (h0 : m ≠ 0) (ha : a + 32 ≤ 8 * bs.length) : more 0#32 (burst bs a m 32) ≠ more 0#32 bs :=
  burst_law bs _ a m (burst_length _ _ _ _) hm h0 ha fun j _ => bitAt_burst bs a m 32 ha j
/-- A text of which the first i bytes of m are taken by exclusive or to those from place k on. -/
def chg (bs : List UInt8) (k : Nat) (m : List UInt8) : Nat → List UInt8
  | 0 => bs
  | i + 1 => (chg bs k m i).set (k + i) ((chg bs k m i).getD (k + i) 0 ^^^ m.getD i 0)
theorem chg_length (bs : List UInt8) (k : Nat) (m : List UInt8) : ∀ i, (chg bs k m i).length = bs.length
  | 0 => rfl
  | i + 1 => by rw [chg, List.length_set, chg_length bs k m i]
theorem chg_get (bs : List UInt8) (k : Nat) (m : List UInt8) : ∀ i, k + i ≤ bs.length → ∀ j, (chg bs k m i).getD j 0 = if k ≤ j ∧ j < k + i then bs.getD j 0 ^^^ m.getD (j - k) 0 else bs.getD j 0
  | 0, _, j => by rw [chg, if_neg (by omega)]
  | i + 1, hi, j => by
    have ih := chg_get bs k m i (by omega)
    rw [chg]
    by_cases e : j = k + i
    · subst e
      have hlt : k + i < (chg bs k m i).length := by rw [chg_length]; omega
      rw [if_pos (by omega), Nat.add_sub_cancel_left, ih (k + i), if_neg (by omega)]
      simp [List.getD, List.getElem?_set, hlt]
    · have hg : ((chg bs k m i).set (k + i) ((chg bs k m i).getD (k + i) 0 ^^^ m.getD i 0)).getD j 0 = (chg bs k m i).getD j 0 := by
        have e' : ¬ k + i = j := fun h => e h.symm
        simp [List.getD, List.getElem?_set, e']
      rw [hg, ih j]
      by_cases hin : k ≤ j ∧ j < k + i
      · rw [if_pos hin, if_pos (by omega)]
      · rw [if_neg hin, if_neg (by omega)]
theorem chg_sum (bs : List UInt8) (k : Nat) (m : List UInt8) (h : k + m.length ≤ bs.length) :
    more 0#32 (chg bs k m m.length) = more 0#32 bs ^^^ Z (bs.length - m.length - k) (through 0#32 m) := by
  have hb : bs = bs.take k ++ ((bs.drop k).take m.length ++ bs.drop (k + m.length)) := by
    rw [← List.drop_drop, List.take_append_drop, List.take_append_drop]
  have hq : ((bs.drop k).take m.length).length = m.length := by simp; omega
  have hr : (bs.drop (k + m.length)).length = bs.length - m.length - k := by simp; omega
  have hc : chg bs k m m.length = bs.take k ++ (xorL ((bs.drop k).take m.length) m ++ bs.drop (k + m.length)) := by
    apply List.ext_getElem
    · simp [chg_length, xorL]; omega
    · intro j h1 h2
      have hj : j < bs.length := by rw [chg_length] at h1; exact h1
      have hg := chg_get bs k m m.length h j
      have e1 : (chg bs k m m.length).getD j 0 = (chg bs k m m.length)[j] := by simp [List.getD, List.getElem?_eq_getElem h1]
      have e2 : bs.getD j 0 = bs[j] := by simp [List.getD, List.getElem?_eq_getElem hj]
      rw [e1, e2] at hg
      rw [hg]
      have hk : (bs.take k).length = k := by simp; omega
      by_cases h3 : j < k
      · rw [if_neg (by omega), List.getElem_append_left (by omega), List.getElem_take]
      · rw [List.getElem_append_right (by omega)]
        have hx : (xorL ((bs.drop k).take m.length) m).length = m.length := by simp [xorL]; omega
        by_cases h4 : j < k + m.length
        · rw [if_pos (by omega), List.getElem_append_left (by omega)]
          have e3 : m.getD (j - k) 0 = m[j - k]'(by omega) := by simp [List.getD, List.getElem?_eq_getElem (show j - k < m.length by omega)]
          rw [e3]
          simp only [xorL, List.getElem_zipWith, List.getElem_take, List.getElem_drop, hk]
          simp only [show k + (j - k) = j from by omega]
        · rw [if_neg (by omega), List.getElem_append_right (by omega), List.getElem_drop]
          simp only [hk, hx]
          simp only [show k + m.length + (j - k - m.length) = j from by omega]
  rw [hc, change_law _ _ _ _ hq, hr, ← hb]
end Crc
