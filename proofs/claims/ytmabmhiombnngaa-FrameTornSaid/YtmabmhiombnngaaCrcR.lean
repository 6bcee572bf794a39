/- What the reference's functions of layer 2 compute. -/
import Derived.Test.YtmabmhiombnngaaBytes
import Derived.Test.YtmabmhiombnngaaCrcP
set_option linter.unusedVariables false
set_option linter.unusedSimpArgs false
namespace Go.Proofs.Ytmabmhiombnngaa
open Go.RowKit Cib
theorem two_pow_mod (i : Nat) (h : i < 8) : (2 : Int) ^ i % 4294967296 = ((2 ^ i : Nat) : Int) := by
  have h1 : ∀ k : Fin 8, (2 : Int) ^ k.val % 4294967296 = ((2 ^ k.val : Nat) : Int) := by decide
  exact h1 ⟨i, h⟩
theorem two_pow_le (i : Nat) (h : i < 8) : 2 ^ i ≤ 128 := by
  have h1 : ∀ k : Fin 8, 2 ^ k.val ≤ 128 := by decide
  exact h1 ⟨i, h⟩
theorem refRegister (c : BitVec 32) (A : Option Addr) (cap : Nat) (bs : List UInt8) (w : World) (B : Nat) (h : Rd w B A (bs.map bv)) (hl : bs.length ≤ maxLen) {len : Nat} (hn : bs.length = len) :
    Calls Try.prog 56 #[.int .u32 (c.toNat : Int), .slice A len cap] w fun e w' => e = .returned (.int .u32 ((Crc.through c bs).toNat : Int)) ∧ w = w' := by
  subst hn
  unfold maxLen at hl
  go_enter Try.func56, Try.ntmps56
  go_wp2
  go_loop [0, 5, 6, 7, 8] (fun r i _ _ _ => ∃ k : Nat, k ≤ bs.length ∧ i = .int .i64 k ∧ r = .int .u32 ((Crc.through c (bs.take k)).toNat : Int)) (fun _ i _ _ _ => bs.length - (intOf i).toNat)
  case atStart => exact ⟨0, Nat.zero_le _, rfl, rfl⟩
  case round =>
    obtain ⟨k, hk, rfl, rfl⟩ := hrel
    by_cases hlt : k < bs.length
    · obtain ⟨ad, rfl, _, hc⟩ := h.byte hlt
      have HS := Lib.hid (Crc.through_snoc c bs k hlt)
      have HE := Lib.hid (Crc.rb_eat (Crc.through c (bs.take k)) bs[k])
      generalize bs[k] = b at *
      generalize Crc.through c (bs.take k) = r at *
      go_wp2
      go_loop [0, 6, 7, 8] (fun q j _ _ => ∃ i : Nat, i ≤ 8 ∧ j = .int .i64 i ∧ q = .int .u32 ((Crc.rb r b i).toNat : Int)) (fun _ j _ _ => 8 - (intOf j).toNat)
      case atStart => exact ⟨0, Nat.zero_le _, rfl, rfl⟩
      case round =>
        obtain ⟨i, hi, rfl, rfl⟩ := hrel
        by_cases hlt2 : i < 8
        · have HP : ∃ P : Nat, Hid (P = 2 ^ i) ∧ (2 : Int) ^ i % 4294967296 = (P : Int) ∧ 1 ≤ P ∧ P ≤ 128 := ⟨2 ^ i, rfl, two_pow_mod i hlt2, Nat.two_pow_pos i, two_pow_le i hlt2⟩
          obtain ⟨P, hP, e1, hP1, hP2⟩ := HP
          have e3 := b.toNat_lt
          have e2 : (b.toNat : Int) % 4294967296 = (b.toNat : Int) := by omega
          have HL := Lib.hid (Crc.step_low (Crc.rb r b i) (b.toNat / P % 2) (Nat.mod_lt _ (by decide)))
          have HR : Hid (Crc.rb r b (i + 1) = Crc.step (Crc.rb r b i ^^^ BitVec.ofNat 32 (b.toNat / P % 2))) := by rw [hP.out]; rfl
          have hq := (Crc.rb r b i).isLt
          generalize Crc.rb r b i = q at *
          have hsh : (q.toNat : Int) / (2 : Int) = ((q >>> 1).toNat : Int) := by simp [Nat.shiftRight_succ]
          by_cases ht : b.toNat / P % 2 = q.toNat % 2
          · have HF := Lib.hid (HL.out.trans (if_pos ht))
            have HS2 := Lib.hid hsh
            clear hsh
            go_wp2
            exact ⟨⟨i + 1, by omega, by go_num, int_eq (by rw [HR.out, HF.out, HS2.out])⟩, by simp [intOf]; omega⟩
          · have HF := Lib.hid (HL.out.trans (if_neg ht))
            have hx : bits .xor .u32 ((q.toNat : Int) / (2 : Int)) 2197175160 = ((q >>> 1 ^^^ Crc.poly).toNat : Int) := by
              rw [hsh, BitVec.toNat_xor]
              exact u32_xor_nat _ 2197175160 (BitVec.isLt _) (by decide)
            have HS2 := Lib.hid hx
            clear hsh hx
            go_wp2
            exact ⟨⟨i + 1, by omega, by go_num, int_eq (by rw [HR.out, HF.out, HS2.out])⟩, by simp [intOf]; omega⟩
        · go_wp2
          obtain rfl : i = 8 := by omega
          exact ⟨⟨k + 1, by omega, by go_num, nat_eq (by rw [HS.out, HE.out])⟩, by simp [intOf]; omega⟩
    · go_wp2
      go_ret
      exact ⟨ret_eq (nat_eq (by rw [List.take_of_length_le (by omega)])), rfl⟩

theorem refTurned (c : BitVec 32) (w : World) :
    Calls Try.prog 55 #[.int .u32 (c.toNat : Int)] w fun e w' => e = .returned (.int .u32 ((~~~ c).toNat : Int)) ∧ w = w' := by
  have hc := c.isLt
  have HE : Hid ((4294967295 : Int) - (c.toNat : Int) = ((~~~ c).toNat : Int)) := by
    unfold Hid
    rw [BitVec.toNat_not]
    omega
  go_enter Try.func55, Try.ntmps55
  go_wp2
  go_ret
  exact ⟨ret_eq (int_eq HE.out), rfl⟩

theorem refMore (c : BitVec 32) (A : Option Addr) (cap : Nat) (bs : List UInt8) (w : World) (B : Nat) (h : Rd w B A (bs.map bv)) (hl : bs.length ≤ maxLen) {len : Nat} (hn : bs.length = len) :
    Calls Try.prog 47 #[.int .u32 (c.toNat : Int), .slice A len cap] w fun e w' => e = .returned (.int .u32 ((Crc.more c bs).toNat : Int)) ∧ w = w' := by
  subst hn
  obtain ⟨c1, e1⟩ : ∃ d : BitVec 32, Hid (~~~ c = d) := ⟨_, rfl⟩
  obtain ⟨c2, e2⟩ : ∃ d : BitVec 32, Hid (~~~ Crc.through c1 bs = d) := ⟨_, rfl⟩
  have HE : Hid (Crc.more c bs = c2) := by unfold Crc.more; rw [e1.out, e2.out]; exact rfl
  go_enter Try.func47, Try.ntmps47
  go_wp2_with fail
  refine (refTurned c _).mono ?_
  rintro e w' ⟨rfl, rfl⟩
  rw [e1.out]
  go_wp2_with fail
  refine (refRegister c1 A cap bs _ B h hl rfl).mono ?_
  rintro e w' ⟨rfl, rfl⟩
  go_wp2_with fail
  refine (refTurned (Crc.through c1 bs) _).mono ?_
  rintro e w' ⟨rfl, rfl⟩
  rw [e2.out]
  go_wp2_with fail
  go_ret
  exact ⟨ret_eq (nat_eq (by rw [HE.out])), rfl⟩

theorem made_zeros (w : World) (n : Nat) (t : TypeId) : Rd (w.alloc (.cells (madeCells #[Value.int .u8 0] n) t)) (w.heap.size + 1) (some ⟨w.heap.size, 0, none⟩) ((List.replicate n (0 : UInt8)).map bv) := by
  refine Rd.new w _ t (0, 0) ?_
  apply List.ext_getElem
  · simp [madeCells]
  · intro i h1 h2
    simp [madeCells, bv, Nat.mod_one]
end Go.Proofs.Ytmabmhiombnngaa
