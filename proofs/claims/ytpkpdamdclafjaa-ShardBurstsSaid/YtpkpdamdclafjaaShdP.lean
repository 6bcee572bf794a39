/- A shard as a sector, in plain Lean. Nothing about the program. -/
import Derived.Test.YtpkpdamdclafjaaNumP
import Derived.Test.YtpkpdamdclafjaaCrcQ
set_option linter.unusedVariables false
set_option linter.unusedSimpArgs false
namespace Num
theorem leB_nil (n : Nat) : leB n 0 = [] := rfl
theorem leB_cons (n k : Nat) : leB n (k + 1) = UInt8.ofNat n :: leB (n / 256) k := by
  unfold leB
  rw [List.range_succ_eq_map, List.map_cons, List.map_map]
  congr 1
  · simp
  · apply List.map_congr_left
    intro i _
    simp only [Function.comp]
    rw [Nat.pow_succ, Nat.mul_comm (256 ^ i) 256, Nat.div_div_eq_div_mul]
theorem leB_leN : ∀ (l : List UInt8), leB (leN l) l.length = l
  | [] => rfl
  | b :: t => by
    rw [List.length_cons, leB_cons, leN]
    congr 1
    · rw [show b.toNat + 256 * leN t = b.toNat + 256 * leN t from rfl]
      apply UInt8.toNat_inj.1
      rw [UInt8.toNat_ofNat']
      have := b.toNat_lt
      omega
    · rw [show (b.toNat + 256 * leN t) / 256 = leN t from by have := b.toNat_lt; omega]
      exact leB_leN t
theorem leB_leN' {l : List UInt8} {k : Nat} (h : l.length = k) : leB (leN l) k = l := by rw [← h]; exact leB_leN l
theorem leN_leB_lt {n k : Nat} (h : n < 256 ^ k) : leN (leB n k) = n := by rw [leN_leB, Nat.mod_eq_of_lt h]
theorem leB_inj {n m k : Nat} (hn : n < 256 ^ k) (hm : m < 256 ^ k) (h : leB n k = leB m k) : n = m := by rw [← leN_leB_lt hn, h, leN_leB_lt hm]
end Num
namespace Shd
structure Sh where
  kind : Nat
  idx : Nat
  place : Nat
  gen : Nat
  size : Nat
  body : List UInt8
def Sh.ok (s : Sh) : Prop := s.kind < 256 ∧ s.idx < 256 ∧ s.place < 65536 ∧ s.gen < 18446744073709551616 ∧ s.size < 65536 ∧ s.body.length = 44
def nul : Sh := ⟨0, 0, 0, 0, 0, List.replicate 44 0⟩
theorem nul_ok : nul.ok := ⟨by decide, by decide, by decide, by decide, by decide, by simp [nul]⟩
def headL (s : Sh) : List (Nat × Nat) := [(1, s.kind), (1, s.idx), (2, s.place), (8, s.gen), (2, s.size), (2, 0)]
def headTo (s : Sh) (k : Nat) : List UInt8 := ((headL s).take k).flatMap fun p => Num.leB p.2 p.1
def headB (s : Sh) : List UInt8 := Num.leB s.kind 1 ++ (Num.leB s.idx 1 ++ (Num.leB s.place 2 ++ (Num.leB s.gen 8 ++ (Num.leB s.size 2 ++ Num.leB 0 2))))
theorem headTo_all (s : Sh) : headTo s 6 = headB s := by simp [headTo, headL, headB]
theorem headB_length (s : Sh) : (headB s).length = 16 := by simp [headB, Num.leB_length]
theorem headTo_succ (s : Sh) {k : Nat} (h : k < (headL s).length) : headTo s (k + 1) = headTo s k ++ Num.leB ((headL s)[k]).2 ((headL s)[k]).1 := by
  unfold headTo
  rw [List.take_succ_eq_append_getElem h, List.flatMap_append]
  simp
theorem headL_length (s : Sh) : (headL s).length = 6 := rfl
theorem headL_ok {s : Sh} (hs : s.ok) : ∀ p ∈ headL s, 1 ≤ p.1 ∧ p.1 ≤ 8 ∧ p.2 < 18446744073709551616 := by
  obtain ⟨h1, h2, h3, h4, h5, _⟩ := hs
  intro p hp
  simp only [headL, List.mem_cons, List.not_mem_nil, or_false] at hp
  rcases hp with rfl | rfl | rfl | rfl | rfl | rfl <;> (refine ⟨?_, ?_, ?_⟩ <;> simp <;> omega)
theorem headTo_length (s : Sh) : ∀ k, (headTo s k).length ≤ 16
  | 0 => by simp [headTo]
  | 1 => by simp [headTo, headL, Num.leB_length]
  | 2 => by simp [headTo, headL, Num.leB_length]
  | 3 => by simp [headTo, headL, Num.leB_length]
  | 4 => by simp [headTo, headL, Num.leB_length]
  | 5 => by simp [headTo, headL, Num.leB_length]
  | k + 6 => by simp [headTo, headL, Num.leB_length]
def core (s : Sh) : List UInt8 := headB s ++ s.body
def closed (b : List UInt8) : List UInt8 := b ++ Num.leB (Crc.more 0#32 b).toNat 4
def kindB (k : Nat) : Bool := decide (1 ≤ k) && decide (k ≤ 4)
def putS (s : Sh) : List UInt8 × Nat := if kindB s.kind = true then (closed (core s), 0) else ([], 2)
def at_ (b : List UInt8) (i w : Nat) : Nat := Num.leN ((b.drop i).take w)
def readS (b : List UInt8) : Sh := ⟨at_ b 0 1, at_ b 1 1, at_ b 2 2, at_ b 4 8, at_ b 12 2, (b.drop 16).take 44⟩
def getS (b : List UInt8) : Sh × Nat :=
  if b.length ≠ 64 then (nul, 2)
  else if at_ b 60 4 ≠ (Crc.more 0#32 (b.take 60)).toNat then (nul, 4)
  else if kindB (at_ b 0 1) = false ∨ at_ b 14 2 ≠ 0 then (nul, 3)
  else (readS b, 0)
theorem at_lt (b : List UInt8) (i w : Nat) : at_ b i w < 256 ^ w := by
  unfold at_
  have h1 := Num.leN_lt ((b.drop i).take w)
  have h2 : ((b.drop i).take w).length ≤ w := List.length_take_le _ _
  exact Nat.lt_of_lt_of_le h1 (Nat.pow_le_pow_right (by decide) h2)
theorem readS_ok {b : List UInt8} (h : b.length = 64) : (readS b).ok := by
  have h1 := at_lt b 0 1
  have h2 := at_lt b 1 1
  have h3 := at_lt b 2 2
  have h4 := at_lt b 4 8
  have h5 := at_lt b 12 2
  refine ⟨h1, h2, h3, h4, h5, ?_⟩
  show ((b.drop 16).take 44).length = 44
  rw [List.length_take, List.length_drop]
  omega
theorem core_length {s : Sh} (h : s.ok) : (core s).length = 60 := by
  unfold core
  rw [List.length_append, headB_length, h.2.2.2.2.2]
theorem closed_length (b : List UInt8) : (closed b).length = b.length + 4 := by
  unfold closed
  rw [List.length_append, Num.leB_length]
theorem sum_lt (b : List UInt8) : (Crc.more 0#32 b).toNat < 256 ^ 4 := (Crc.more 0#32 b).isLt
/-- A text's number that lies at a known place. -/
theorem at_app (p q r : List UInt8) {i w : Nat} (hi : p.length = i) (hw : q.length = w) : at_ (p ++ (q ++ r)) i w = Num.leN q := by
  unfold at_
  subst hi hw
  rw [List.drop_left, List.take_left]
theorem closed_sum {b : List UInt8} (h : b.length = 60) : at_ (closed b) 60 4 = (Crc.more 0#32 ((closed b).take 60)).toNat := by
  have e : (closed b).take 60 = b := by
    unfold closed
    rw [← h, List.take_left]
  rw [e]
  have := at_app b (Num.leB (Crc.more 0#32 b).toNat 4) [] (i := 60) (w := 4) h (Num.leB_length _ _)
  rw [List.append_nil] at this
  unfold closed
  rw [this, Num.leN_leB_lt (sum_lt b)]
theorem closed_iff {b : List UInt8} (h : b.length = 64) : closed (b.take 60) = b ↔ at_ b 60 4 = (Crc.more 0#32 (b.take 60)).toNat := by
  have hl : (b.take 60).length = 60 := by rw [List.length_take]; omega
  constructor
  · intro e
    have := closed_sum hl
    rw [e] at this
    exact this
  · intro e
    unfold closed
    rw [← e]
    unfold at_
    rw [Num.leB_leN' (by rw [List.length_take, List.length_drop]; omega)]
    rw [List.take_of_length_le (l := b.drop 60) (by rw [List.length_drop]; omega), List.take_append_drop]
theorem core_read {b : List UInt8} (h : b.length = 60) (h0 : at_ b 14 2 = 0) : core (readS b) = b := by
  have e : ∀ i w, i + w ≤ 60 → Num.leB (at_ b i w) w = (b.drop i).take w := fun i w hw => by
    unfold at_
    exact Num.leB_leN' (by rw [List.length_take, List.length_drop]; omega)
  unfold core headB readS
  simp only
  have ez : Num.leB 0 2 = (b.drop 14).take 2 := by rw [← e 14 2 (by omega), h0]
  rw [e 0 1 (by omega), e 1 1 (by omega), e 2 2 (by omega), e 4 8 (by omega), e 12 2 (by omega), ez]
  have j : ∀ i w v, (b.drop i).take w ++ (b.drop (i + w)).take v = (b.drop i).take (w + v) := fun i w v => by
    rw [List.take_add, List.drop_drop]
  rw [j 12 2 2, j 4 8 4, j 2 2 12, j 1 1 14, j 0 1 15]
  show (b.drop 0).take 16 ++ (b.drop (0 + 16)).take 44 = b
  rw [j 0 16 44, List.drop_zero, List.take_of_length_le (by omega)]
theorem read_core {s : Sh} (h : s.ok) (t : List UInt8) : readS (core s ++ t) = s ∧ at_ (core s ++ t) 14 2 = 0 := by
  obtain ⟨h1, h2, h3, h4, h5, h6⟩ := h
  have e : core s ++ t = Num.leB s.kind 1 ++ (Num.leB s.idx 1 ++ (Num.leB s.place 2 ++ (Num.leB s.gen 8 ++ (Num.leB s.size 2 ++ (Num.leB 0 2 ++ (s.body ++ t)))))) := by
    unfold core headB
    simp only [List.append_assoc]
  have a1 : at_ (core s ++ t) 0 1 = s.kind := by
    rw [e]
    exact (at_app [] _ _ rfl (Num.leB_length _ _)).trans (Num.leN_leB_lt h1)
  have a2 : at_ (core s ++ t) 1 1 = s.idx := by
    rw [e]
    exact (at_app (Num.leB s.kind 1) _ _ (Num.leB_length _ _) (Num.leB_length _ _)).trans (Num.leN_leB_lt h2)
  have a3 : at_ (core s ++ t) 2 2 = s.place := by
    rw [e, ← List.append_assoc]
    exact (at_app (Num.leB s.kind 1 ++ Num.leB s.idx 1) _ _ (by simp [Num.leB_length]) (Num.leB_length _ _)).trans (Num.leN_leB_lt h3)
  have a4 : at_ (core s ++ t) 4 8 = s.gen := by
    rw [e, ← List.append_assoc, ← List.append_assoc]
    exact (at_app ((Num.leB s.kind 1 ++ Num.leB s.idx 1) ++ Num.leB s.place 2) _ _ (by simp [Num.leB_length]) (Num.leB_length _ _)).trans (Num.leN_leB_lt h4)
  have a5 : at_ (core s ++ t) 12 2 = s.size := by
    rw [e, ← List.append_assoc, ← List.append_assoc, ← List.append_assoc]
    exact (at_app (((Num.leB s.kind 1 ++ Num.leB s.idx 1) ++ Num.leB s.place 2) ++ Num.leB s.gen 8) _ _ (by simp [Num.leB_length]) (Num.leB_length _ _)).trans (Num.leN_leB_lt h5)
  have a6 : at_ (core s ++ t) 14 2 = 0 := by
    rw [e, ← List.append_assoc, ← List.append_assoc, ← List.append_assoc, ← List.append_assoc]
    exact (at_app ((((Num.leB s.kind 1 ++ Num.leB s.idx 1) ++ Num.leB s.place 2) ++ Num.leB s.gen 8) ++ Num.leB s.size 2) _ _ (by simp [Num.leB_length]) (Num.leB_length _ _)).trans (Num.leN_leB_lt (by decide))
  have a7 : ((core s ++ t).drop 16).take 44 = s.body := by
    unfold core
    rw [List.append_assoc, ← headB_length s, List.drop_left, ← h6, List.take_left]
  refine ⟨?_, a6⟩
  unfold readS
  rw [a1, a2, a3, a4, a5, a7]
theorem get_put {s : Sh} (h : s.ok) (hk : kindB s.kind = true) : getS (closed (core s)) = (s, 0) := by
  have hl := core_length h
  obtain ⟨r1, r2⟩ := read_core h (Num.leB (Crc.more 0#32 (core s)).toNat 4)
  have r3 : at_ (closed (core s)) 0 1 = s.kind := congrArg Sh.kind r1
  unfold getS
  rw [if_neg (by rw [closed_length]; omega), if_neg (by rw [closed_sum hl]; exact fun h => h rfl)]
  rw [if_neg (by
    rw [r3, hk]
    rintro (h | h)
    · cases h
    · exact h r2)]
  exact congrArg (·, 0) r1
/-- What 60 bytes with their sum are as a shard. -/
theorem get_closed {b : List UInt8} (h : b.length = 60) : (getS (closed b) = (nul, 3)) ∨ ((getS (closed b)).2 = 0 ∧ (getS (closed b)).1.ok ∧ putS (getS (closed b)).1 = (closed b, 0)) := by
  unfold getS
  have hc : (closed b).length = 64 := by rw [closed_length]; omega
  rw [if_neg (by omega), if_neg (by rw [closed_sum h]; exact fun h => h rfl)]
  by_cases hx : kindB (at_ (closed b) 0 1) = false ∨ at_ (closed b) 14 2 ≠ 0
  · rw [if_pos hx]
    exact .inl rfl
  · rw [if_neg hx]
    right
    refine ⟨rfl, readS_ok hc, ?_⟩
    have h1 : kindB (at_ (closed b) 0 1) = true := by
      cases h2 : kindB (at_ (closed b) 0 1)
      · exact absurd (.inl h2) hx
      · rfl
    have h2 : at_ (closed b) 14 2 = 0 := by
      by_cases h3 : at_ (closed b) 14 2 = 0
      · exact h3
      · exact absurd (.inr h3) hx
    have ea : ∀ i w, i + w ≤ 60 → at_ (closed b) i w = at_ b i w := fun i w hw => by
      unfold at_ closed
      rw [List.drop_append_of_le_length (by omega), List.take_append_of_le_length (by rw [List.length_drop]; omega)]
    have er : readS (closed b) = readS b := by
      unfold readS
      rw [ea 0 1 (by omega), ea 1 1 (by omega), ea 2 2 (by omega), ea 4 8 (by omega), ea 12 2 (by omega)]
      congr 1
      unfold closed
      rw [List.drop_append_of_le_length (by omega), List.take_append_of_le_length (by rw [List.length_drop]; omega)]
    unfold putS
    rw [if_pos (by exact h1)]
    show (closed (core (readS (closed b))), 0) = _
    rw [er, core_read h (by rw [← ea 14 2 (by omega)]; exact h2)]
end Shd
