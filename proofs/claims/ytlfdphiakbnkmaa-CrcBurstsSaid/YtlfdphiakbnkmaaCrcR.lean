/- What the reference's functions of layer 2 compute. -/
import Derived.Test.YtlfdphiakbnkmaaBase
import Derived.Test.YtlfdphiakbnkmaaCrcP
set_option linter.unusedVariables false
set_option linter.unusedSimpArgs false
namespace Go.Proofs.Ytlfdphiakbnkmaa
open Go.RowKit Cib
theorem two_pow_mod (i : Nat) (h : i < 8) : (2 : Int) ^ i % 4294967296 = ((2 ^ i : Nat) : Int) := by
  have h1 : ∀ k : Fin 8, (2 : Int) ^ k.val % 4294967296 = ((2 ^ k.val : Nat) : Int) := by decide
  exact h1 ⟨i, h⟩
theorem two_pow_le (i : Nat) (h : i < 8) : 2 ^ i ≤ 128 := by
  have h1 : ∀ k : Fin 8, 2 ^ k.val ≤ 128 := by decide
  exact h1 ⟨i, h⟩
theorem refRegister (c : BitVec 32) (A : Option Addr) (cap : Nat) (bs : List UInt8) (w : World) (B : Nat) (h : Rd w B A (bs.map bv)) (hl : bs.length ≤ maxLen) {len : Nat} (hn : bs.length = len) :
    Calls Try.prog 22 #[.int .u32 (c.toNat : Int), .slice A len cap] w fun e w' => e = .returned (.int .u32 ((Crc.through c bs).toNat : Int)) ∧ w = w' := by
  subst hn
  unfold maxLen at hl
  go_enter Try.func22, Try.ntmps22
  go_wp2
  go_loop [0, 5, 6, 7, 8] (fun r i _ _ _ => ∃ k : Nat, k ≤ bs.length ∧ i = .int .i64 k ∧ r = .int .u32 ((Crc.through c (bs.take k)).toNat : Int)) (fun _ i _ _ _ => bs.length - (intOf i).toNat)
  case atStart => exact ⟨0, Nat.zero_le _, rfl, rfl⟩
  case round =>
    obtain ⟨k, hk, rfl, rfl⟩ := hrel
    by_cases hlt : k < bs.length
    · obtain ⟨ad, rfl, _, hc⟩ := h.byte hlt
      have HS := Lib.hid (Crc.through_snoc c bs k hlt)
      have HE := Lib.hid (Crc.rb_eat (Crc.through c (bs.take k)) bs[k])
      generalize bs[k] = b at *
      generalize Crc.through c (bs.take k) = r at *
      go_wp2
      go_loop [0, 6, 7, 8] (fun q j _ _ => ∃ i : Nat, i ≤ 8 ∧ j = .int .i64 i ∧ q = .int .u32 ((Crc.rb r b i).toNat : Int)) (fun _ j _ _ => 8 - (intOf j).toNat)
      case atStart => exact ⟨0, Nat.zero_le _, rfl, rfl⟩
      case round =>
        obtain ⟨i, hi, rfl, rfl⟩ := hrel
        by_cases hlt2 : i < 8
        · have HP : ∃ P : Nat, Hid (P = 2 ^ i) ∧ (2 : Int) ^ i % 4294967296 = (P : Int) ∧ 1 ≤ P ∧ P ≤ 128 := ⟨2 ^ i, rfl, two_pow_mod i hlt2, Nat.two_pow_pos i, two_pow_le i hlt2⟩
          obtain ⟨P, hP, e1, hP1, hP2⟩ := HP
          have e3 := b.toNat_lt
          have e2 : (b.toNat : Int) % 4294967296 = (b.toNat : Int) := by omega
          have HL := Lib.hid (Crc.step_low (Crc.rb r b i) (b.toNat / P % 2) (Nat.mod_lt _ (by decide)))
          have HR : Hid (Crc.rb r b (i + 1) = Crc.step (Crc.rb r b i ^^^ BitVec.ofNat 32 (b.toNat / P % 2))) := by rw [hP.out]; rfl
          have hq := (Crc.rb r b i).isLt
          generalize Crc.rb r b i = q at *
          have hsh : (q.toNat : Int) / (2 : Int) = ((q >>> 1).toNat : Int) := by simp [Nat.shiftRight_succ]
          by_cases ht : b.toNat / P % 2 = q.toNat % 2
          · have HF := Lib.hid (HL.out.trans (if_pos ht))
            have HS2 := Lib.hid hsh
            clear hsh
            go_wp2
            exact ⟨⟨i + 1, by omega, by go_num, int_eq (by rw [HR.out, HF.out, HS2.out])⟩, by simp [intOf]; omega⟩
          · have HF := Lib.hid (HL.out.trans (if_neg ht))
            have hx : bits .xor .u32 ((q.toNat : Int) / (2 : Int)) 2197175160 = ((q >>> 1 ^^^ Crc.poly).toNat : Int) := by
              rw [hsh, BitVec.toNat_xor]
              exact u32_xor_nat _ 2197175160 (BitVec.isLt _) (by decide)
            have HS2 := Lib.hid hx
            clear hsh hx
            go_wp2
            exact ⟨⟨i + 1, by omega, by go_num, int_eq (by rw [HR.out, HF.out, HS2.out])⟩, by simp [intOf]; omega⟩
        · go_wp2
          obtain rfl : i = 8 := by omega
          exact ⟨⟨k + 1, by omega, by go_num, nat_eq (by rw [HS.out, HE.out])⟩, by simp [intOf]; omega⟩
    · go_wp2
      go_ret
      exact ⟨ret_eq (nat_eq (by rw [List.take_of_length_le (by omega)])), rfl⟩

theorem refTurned (c : BitVec 32) (w : World) :
    Calls Try.prog 21 #[.int .u32 (c.toNat : Int)] w fun e w' => e = .returned (.int .u32 ((~~~ c).toNat : Int)) ∧ w = w' := by
  have hc := c.isLt
  have HE : Hid ((4294967295 : Int) - (c.toNat : Int) = ((~~~ c).toNat : Int)) := by
    unfold Hid
    rw [BitVec.toNat_not]
    omega
  go_enter Try.func21, Try.ntmps21
  go_wp2
  go_ret
  exact ⟨ret_eq (int_eq HE.out), rfl⟩

theorem refMore (c : BitVec 32) (A : Option Addr) (cap : Nat) (bs : List UInt8) (w : World) (B : Nat) (h : Rd w B A (bs.map bv)) (hl : bs.length ≤ maxLen) {len : Nat} (hn : bs.length = len) :
    Calls Try.prog 13 #[.int .u32 (c.toNat : Int), .slice A len cap] w fun e w' => e = .returned (.int .u32 ((Crc.more c bs).toNat : Int)) ∧ w = w' := by
  subst hn
  obtain ⟨c1, e1⟩ : ∃ d : BitVec 32, Hid (~~~ c = d) := ⟨_, rfl⟩
  obtain ⟨c2, e2⟩ : ∃ d : BitVec 32, Hid (~~~ Crc.through c1 bs = d) := ⟨_, rfl⟩
  have HE : Hid (Crc.more c bs = c2) := by unfold Crc.more; rw [e1.out, e2.out]; exact rfl
  go_enter Try.func13, Try.ntmps13
  go_wp2_with fail
  refine (refTurned c _).mono ?_
  rintro e w' ⟨rfl, rfl⟩
  rw [e1.out]
  go_wp2_with fail
  refine (refRegister c1 A cap bs _ B h hl rfl).mono ?_
  rintro e w' ⟨rfl, rfl⟩
  go_wp2_with fail
  refine (refTurned (Crc.through c1 bs) _).mono ?_
  rintro e w' ⟨rfl, rfl⟩
  rw [e2.out]
  go_wp2_with fail
  go_ret
  exact ⟨ret_eq (nat_eq (by rw [HE.out])), rfl⟩

theorem refSum (A : Option Addr) (cap : Nat) (bs : List UInt8) (w : World) (B : Nat) (h : Rd w B A (bs.map bv)) (hl : bs.length ≤ maxLen) {len : Nat} (hn : bs.length = len) :
    Calls Try.prog 11 #[.slice A len cap] w fun e w' => e = .returned (.int .u32 ((Crc.more 0#32 bs).toNat : Int)) ∧ w = w' := by
  subst hn
  go_enter Try.func11, Try.ntmps11
  go_wp2_with fail
  refine (refMore 0#32 A cap bs _ B h hl rfl).mono ?_
  rintro e w' ⟨rfl, rfl⟩
  go_wp2_with fail
  go_ret
  exact ⟨rfl, rfl⟩

theorem infoByte : (Try.prog.info? 5).map (fun i => (i.zero, i.size, i.bytes)) = some (some (.int .u8 0), 1, 1) := by kernel_rfl
theorem made_zeros (w : World) (n : Nat) (t : TypeId) : Rd (w.alloc (.cells (madeCells #[Value.int .u8 0] n) t)) (w.heap.size + 1) (some ⟨w.heap.size, 0, none⟩) ((List.replicate n (0 : UInt8)).map bv) := by
  refine Rd.new w _ t (0, 0) ?_
  apply List.ext_getElem
  · simp [madeCells]
  · intro i h1 h2
    simp [madeCells, bv, Nat.mod_one]
theorem refNoughts (n : Int) (w : World) (h0 : n ≤ 3000) :
    Calls Try.prog 24 #[.int .i64 n] w fun e w' => e = .returned (.slice (some ⟨w.heap.size, 0, none⟩) n.toNat n.toNat) ∧ w' = w.alloc (.cells (madeCells #[Value.int .u8 0] n.toNat) 5) := by
  rcases Int.lt_or_le 0 n with h | h
  · obtain ⟨k, rfl⟩ := Int.eq_ofNat_of_zero_le (Int.le_of_lt h)
    rw [Int.toNat_natCast]
    have hmk := fun W : World => run_make_row' (P := Try.prog) 22 5 (.int .u8 0) 1 Try.underlying22 infoByte rfl .i64 .i64 k (by omega) (by omega) W
    go_enter Try.func24, Try.ntmps24
    go_wp2
    go_ret
    exact ⟨rfl, rfl⟩
  · rw [Int.toNat_of_nonpos h]
    have hmk := fun W : World => run_make_row' (P := Try.prog) 22 5 (.int .u8 0) 1 Try.underlying22 infoByte rfl .i64 .i64 0 (by omega) (by omega) W
    rw [Int.natCast_zero] at hmk
    go_enter Try.func24, Try.ntmps24
    go_wp2
    go_ret
    exact ⟨rfl, rfl⟩

theorem refZeros (c : BitVec 32) (n : Int) (w : World) (h0 : n ≤ 3000) :
    Calls Try.prog 17 #[.int .u32 (c.toNat : Int), .int .i64 n] w fun e w' => e = .returned (.int .u32 ((~~~ Crc.Z n.toNat (~~~ c)).toNat : Int)) ∧ Below w.heap.size w w' := by
  have HE : Hid (Crc.more c (List.replicate n.toNat 0) = ~~~ Crc.Z n.toNat (~~~ c)) := by unfold Crc.more; rw [Crc.through_zeros]; exact rfl
  have hl : (List.replicate n.toNat (0 : UInt8)).length = n.toNat := by simp
  have HL := Lib.hid hl
  clear hl
  go_enter Try.func17, Try.ntmps17
  go_wp2_with fail
  refine (refNoughts n _ h0).mono ?_
  rintro e w1 ⟨rfl, rfl⟩
  go_wp2_with fail
  have hr := refMore c (some ⟨w.heap.size, 0, none⟩) n.toNat (List.replicate n.toNat 0) _ _ (made_zeros w n.toNat 5) (by rw [HL.out]; unfold maxLen; omega) rfl
  rw [HL.out] at hr
  refine hr.mono ?_
  clear hr
  rintro e w1 ⟨rfl, rfl⟩
  go_wp2_with fail
  go_ret
  exact ⟨ret_eq (nat_eq (by rw [HE.out])), (Below.refl _ _).alloc (Nat.le_refl _) _⟩

theorem refJoin (a b : BitVec 32) (n : Int) (w : World) (h0 : n ≤ 3000) :
    Calls Try.prog 18 #[.int .u32 (a.toNat : Int), .int .u32 (b.toNat : Int), .int .i64 n] w fun e w' => e = .returned (.int .u32 ((Crc.Z n.toNat a ^^^ b).toNat : Int)) ∧ Below w.heap.size w w' := by
  have HE : Hid (Crc.through a (List.replicate n.toNat 0) = Crc.Z n.toNat a) := Crc.through_zeros _ _
  have hl : (List.replicate n.toNat (0 : UInt8)).length = n.toNat := by simp
  have HL := Lib.hid hl
  clear hl
  have hx : ∃ d : BitVec 32, Hid (d = Crc.Z n.toNat a ^^^ b) ∧ bits .xor .u32 ((Crc.Z n.toNat a).toNat : Int) (b.toNat : Int) = (d.toNat : Int) := ⟨_, rfl, by rw [u32_xor_nat _ _ (BitVec.isLt _) b.isLt, BitVec.toNat_xor]⟩
  obtain ⟨d, HD, hx⟩ := hx
  go_enter Try.func18, Try.ntmps18
  go_wp2_with fail
  refine (refNoughts n _ h0).mono ?_
  rintro e w1 ⟨rfl, rfl⟩
  go_wp2_with fail
  have hr := refRegister a (some ⟨w.heap.size, 0, none⟩) n.toNat (List.replicate n.toNat 0) _ _ (made_zeros w n.toNat 5) (by rw [HL.out]; unfold maxLen; omega) rfl
  rw [HL.out, HE.out] at hr
  refine hr.mono ?_
  clear hr
  rintro e w1 ⟨rfl, rfl⟩
  go_wp2_with fail
  go_ret
  exact ⟨ret_eq (nat_eq (by rw [← HD.out])), (Below.refl _ _).alloc (Nat.le_refl _) _⟩

theorem refTurned3 (s : BitVec 32) (A : Option Addr) (cap : Nat) (bs : List UInt8) (n : Int) (w : World) (h : Rd w w.heap.size A (bs.map bv)) (hl : bs.length ≤ maxLen) {len : Nat} (hn : bs.length = len) (h0 : n ≤ 3000) :
    Calls Try.prog 19 #[.int .u32 (s.toNat : Int), .slice A len cap, .int .i64 n] w fun e w' => e = .returned (.int .u32 ((s ^^^ Crc.Z n.toNat (Crc.through 0#32 bs)).toNat : Int)) ∧ Below w.heap.size w w' := by
  subst hn
  have HE : Hid (Crc.through (Crc.through 0#32 bs) (List.replicate n.toNat 0) = Crc.Z n.toNat (Crc.through 0#32 bs)) := Crc.through_zeros _ _
  have hl' : (List.replicate n.toNat (0 : UInt8)).length = n.toNat := by simp
  have HL := Lib.hid hl'
  clear hl'
  have hx : ∃ d : BitVec 32, Hid (d = s ^^^ Crc.Z n.toNat (Crc.through 0#32 bs)) ∧ bits .xor .u32 (s.toNat : Int) ((Crc.Z n.toNat (Crc.through 0#32 bs)).toNat : Int) = (d.toNat : Int) := ⟨_, rfl, by rw [u32_xor_nat _ _ s.isLt (BitVec.isLt _), BitVec.toNat_xor]⟩
  obtain ⟨d, HD, hx⟩ := hx
  go_enter Try.func19, Try.ntmps19
  go_wp2_with fail
  refine (refRegister 0#32 A cap bs _ _ h hl rfl).mono ?_
  rintro e w1 ⟨rfl, rfl⟩
  go_wp2_with fail
  refine (refNoughts n _ h0).mono ?_
  rintro e w1 ⟨rfl, rfl⟩
  go_wp2_with fail
  have hr := refRegister (Crc.through 0#32 bs) (some ⟨w.heap.size, 0, none⟩) n.toNat (List.replicate n.toNat 0) _ _ (made_zeros w n.toNat 5) (by rw [HL.out]; unfold maxLen; omega) rfl
  rw [HL.out, HE.out] at hr
  refine hr.mono ?_
  clear hr
  rintro e w1 ⟨rfl, rfl⟩
  go_wp2_with fail
  go_ret
  exact ⟨ret_eq (nat_eq (by rw [← HD.out])), (Below.refl _ _).alloc (Nat.le_refl _) _⟩
end Go.Proofs.Ytlfdphiakbnkmaa
