/- What the functions of package crc compute that carry a register over many noughts. -/
import Derived.Test.YtlfdphiakbnkmaaCrcW
import Derived.Maps.RangeWalk
set_option linter.unusedVariables false
set_option linter.unusedSimpArgs false
namespace Go.Proofs.Ytlfdphiakbnkmaa
open Go.RowKit Cib

theorem crcOf (a : Addr) (m : Nat → BitVec 32) (c : BitVec 32) (w : World) (hm : ∀ i, i < 32 → w.cell? (a.add i) = some (.int .u32 ((m i).toNat : Int))) :
    Calls Try.prog 27 #[.pointer (some a), .int .u32 (c.toNat : Int)] w fun e w' => e = .returned (.int .u32 ((Crc.ofTo m c 32).toNat : Int)) ∧ ∃ n, w' = w.drewN n := by
  have hc := c.isLt
  go_enter Try.func27, Try.ntmps27
  go_wp2
  go_loopw [5, 6, 7, 9] (fun r _ _ i wr => ∃ k : Nat, k ≤ 32 ∧ i = .int .i64 k ∧ r = .int .u32 ((Crc.ofTo m c k).toNat : Int) ∧ ∃ n, wr = w.drewN n) (fun _ _ _ i _ => 32 - (intOf i).toNat)
  case atStart => exact ⟨0, Nat.zero_le _, rfl, rfl, 0, rfl⟩
  case round =>
    obtain ⟨k, hk, rfl, rfl, n, rfl⟩ := hrel
    by_cases hlt : k < 32
    · have hcell := hm k hlt
      have HV := Lib.hid (u32_pick (Crc.ofTo m c k) (m k) c k)
      go_wp2
      go_quiet (fail)
      go_wp2
      go_roundw
      case rel => exact ⟨k + 1, by omega, by go_num, int_eq HV.out, n + nq, rfl⟩
      case measure => simp [intOf]; omega
    · go_wp2
      go_ret
      obtain rfl : k = 32 := by omega
      exact ⟨rfl, n, rfl⟩

/-- The cells of a square that is made of a way F. -/
def sq (F : BitVec 32 → BitVec 32) (cs : Array Value) (k : Nat) : Prop := cs.size = 32 ∧ ∀ j, j < k → cs[j]? = some (.int .u32 ((F (Crc.bit j)).toNat : Int))

theorem crcInfo : (Try.prog.info? 41).map (·.size) = some 32 := by kernel_rfl
theorem sq.step {F : BitVec 32 → BitVec 32} {cs : Array Value} {k : Nat} (h : sq F cs k) (hk : k < 32) : sq F (cs.setIfInBounds k (.int .u32 ((F (Crc.bit k)).toNat : Int))) (k + 1) := by
  refine ⟨by simpa using h.1, fun j hj => ?_⟩
  rw [Array.getElem?_setIfInBounds]
  by_cases e : k = j
  · subst e
    have := h.1
    rw [if_pos rfl, if_pos (by omega)]
  · rw [if_neg e]
    exact h.2 j (by omega)
theorem sq.all {F : BitVec 32 → BitVec 32} {cs : Array Value} {k : Nat} (h : sq F cs k) (hk : 32 ≤ k) : sq F cs 32 := ⟨h.1, fun j hj => h.2 j (by omega)⟩
theorem sq.one {F : BitVec 32 → BitVec 32} {cs : Array Value} {k : Nat} (h : sq F cs k) (hk : 32 ≤ k) : cs.all (·.oneCell') = true := by
  rw [Array.all_eq_true]
  intro i hi
  have h1 := h.1
  have h2 := h.2 i (by omega)
  rw [Array.getElem?_eq_getElem hi] at h2
  injection h2 with h2
  rw [h2]
  rfl
theorem sq.cells {F : BitVec 32 → BitVec 32} {cs : Array Value} (h : sq F cs 32) {w : World} {g : Nat} {t : TypeId} (hb : Blk w g t cs) :
    ∀ i, i < 32 → w.cell? ((⟨g, 0, none⟩ : Addr).add i) = some (.int .u32 ((F (Crc.bit i)).toNat : Int)) := by
  intro i hi
  have e : (⟨g, 0, none⟩ : Addr).add i = ⟨g, i, none⟩ := by
    unfold Addr.add
    split <;> simp_all
  rw [e, hb.cell i]
  exact h.2 i hi

theorem crcMade (fid : FuncId) (caps : Array Value) (hf : (fid = 31 ∧ caps = #[]) ∨ fid = 29 ∧ ∃ v, caps = #[v]) (F : BitVec 32 → BitVec 32) (w : World)
    (hway : ∀ (x : BitVec 32) (w1 : World), Below w.heap.size w w1 → Calls Try.prog fid (#[.int .u32 (x.toNat : Int)] ++ caps) w1 fun e w2 => e = .returned (.int .u32 ((F x).toNat : Int)) ∧ ∃ n, w2 = w1.drewN n) :
    Calls Try.prog 28 #[.func (.func fid) #[] caps] w fun e w' => (∃ cs, e = .returned (.agg cs) ∧ sq F cs 32) ∧ Below w.heap.size w w' := by
  have HW := Lib.hid hway
  clear hway
  rcases hf with ⟨rfl, rfl⟩ | ⟨rfl, v, rfl⟩
  all_goals
    go_enter Try.func28, Try.ntmps28
    go_wp2
    go_loopw [4, 5] (fun _ i wr => ∃ k : Nat, k ≤ 32 ∧ i = .int .i64 k ∧ Below w.heap.size w wr ∧ (∃ z, z.size = 32 ∧ Blk wr w.heap.size 41 z) ∧ ∃ cs, sq F cs k ∧ Blk wr (w.heap.size + 1) 41 cs) (fun _ i _ => 32 - (intOf i).toNat)
    case atStart => 
      exact ⟨0, Nat.zero_le _, rfl, ((Below.refl _ _).alloc (Nat.le_refl _) _).alloc (by simp) _, ⟨_, rfl, (Blk.new _ _ _).alloc _⟩, _, ⟨rfl, fun j hj => absurd hj (Nat.not_lt_zero _)⟩, by
        have := Blk.new (w.alloc (.cells #[Value.int IntKind.u32 0, Value.int IntKind.u32 0, Value.int IntKind.u32 0, Value.int IntKind.u32 0, Value.int IntKind.u32 0, Value.int IntKind.u32 0, Value.int IntKind.u32 0, Value.int IntKind.u32 0, Value.int IntKind.u32 0, Value.int IntKind.u32 0, Value.int IntKind.u32 0, Value.int IntKind.u32 0, Value.int IntKind.u32 0, Value.int IntKind.u32 0, Value.int IntKind.u32 0, Value.int IntKind.u32 0, Value.int IntKind.u32 0, Value.int IntKind.u32 0, Value.int IntKind.u32 0, Value.int IntKind.u32 0, Value.int IntKind.u32 0, Value.int IntKind.u32 0, Value.int IntKind.u32 0, Value.int IntKind.u32 0, Value.int IntKind.u32 0, Value.int IntKind.u32 0, Value.int IntKind.u32 0, Value.int IntKind.u32 0, Value.int IntKind.u32 0, Value.int IntKind.u32 0, Value.int IntKind.u32 0, Value.int IntKind.u32 0] 41)) 41
        rw [World.size_alloc] at this
        exact this _⟩
    case round =>
      obtain ⟨k, hk, rfl, hb, ⟨z, hz, hbz⟩, cs, hsq, hbc⟩ := hrel
      by_cases hlt : k < 32
      · have hcell := (hbc.cell k).trans (Array.getElem?_eq_getElem (by have := hsq.1; omega))
        have hfr := hbc.frozen k
        have hbit : (2 : Int) ^ k % 4294967296 = ((Crc.bit k).toNat : Int) := Crc.bit_int k hlt
        go_wp2_with fail
        refine (HW.out (Crc.bit k) _ ?_).mono ?_
        · exact hb
        rintro e w2 ⟨rfl, n, rfl⟩
        clear hbit
        go_wp2
        go_roundw
        case rel => exact ⟨k + 1, by omega, by go_num, (below_drewN hb n).setCell (by simp) _, ⟨z, hz, (hbz.drewN n).far (by simp) _⟩, _, hsq.step hlt, (hbc.drewN n).set k _⟩
        case measure => simp [intOf]; omega
      · go_wp2_with (first | (refine wpList_load_row rfl 41 _ rfl (w.heap.size + 1) rfl 41 cs (0, 0) _ hbc Try.underlying41 rfl (by rw [hsq.1]; exact crcInfo) ?_) | (refine wpList_store_row rfl 41 _ _ rfl w.heap.size cs rfl rfl 41 z hbz (by rw [hsq.1]; exact crcInfo) (by rw [hz, hsq.1]) (hsq.one (by omega)) ?_))
        refine bodyPost_ret (results_cell_row (g := w.heap.size) (t := 41) (cs := cs) (fr := (0, 0)) rfl _ _ _ rfl (hbz.row cs) Try.underlying41 rfl (by rw [hsq.1]; exact crcInfo)) rfl ⟨⟨cs, rfl, hsq.all (by omega)⟩, below_setRow hb (Nat.le_refl _) cs⟩

theorem crcNought1 (c : BitVec 32) (w : World) :
    Calls Try.prog 31 #[.int .u32 (c.toNat : Int)] w fun e w' => e = .returned (.int .u32 ((Crc.Z 1 c).toNat : Int)) ∧ w = w' := by
  have HZ := Lib.hid (Crc.Z_one c)
  have hc := c.isLt
  go_enter Try.func31, Try.ntmps31
  go_wp2_with (go_at_call 25; refine (crcEat c 0 _).mono ?_; rintro e w' ⟨rfl, rfl⟩)
  go_ret
  exact ⟨ret_eq (nat_eq (congrArg BitVec.toNat HZ.out.symm)), rfl⟩

theorem crcFar1 (g : Nat) (k : Nat) (c : BitVec 32) (cs : Array Value) (w : World) (hs : sq (Crc.Z k) cs 32) (hb : Blk w g 41 cs) :
    Calls Try.prog 29 #[.int .u32 (c.toNat : Int), .pointer (some ⟨g, 0, none⟩)] w fun e w' => e = .returned (.int .u32 ((Crc.Z (k + k) c).toNat : Int)) ∧ ∃ n, w' = w.drewN n := by
  have hc := c.isLt
  have h1 := Lib.hid (Crc.ofTo_way k c)
  have h2 := Lib.hid (Crc.ofTo_way k (Crc.Z k c))
  have h3 := Lib.hid (Crc.Z_add k k c)
  go_enter Try.func29, Try.ntmps29
  go_wp2_with fail
  refine (crcOf _ (fun i => Crc.Z k (Crc.bit i)) c _ (hs.cells hb)).mono ?_
  rintro e w' ⟨rfl, n, rfl⟩
  rw [h1.out]
  go_wp2_with fail
  refine (crcOf _ (fun i => Crc.Z k (Crc.bit i)) (Crc.Z k c) _ (hs.cells (hb.drewN n))).mono ?_
  rintro e w' ⟨rfl, m, rfl⟩
  rw [h2.out, ← h3.out]
  go_wp2_with fail
  go_ret
  exact ⟨rfl, n + m, rfl⟩

theorem crcNought (w : World) :
    Calls Try.prog 26 #[] w fun e w' => (∃ cs, e = .returned (.agg cs) ∧ sq (Crc.Z 1) cs 32) ∧ Below w.heap.size w w' := by
  go_enter Try.func26, Try.ntmps26
  go_wp2_with fail
  refine (crcMade 31 #[] (.inl ⟨rfl, rfl⟩) (Crc.Z 1) _ (fun x w1 _ => (crcNought1 x w1).mono fun e w2 ⟨he, hw⟩ => ⟨he, 0, hw.symm⟩)).mono ?_
  rintro e w' ⟨⟨cs, rfl, hs⟩, hb⟩
  have hz := (Blk.new _ _ _).below hb (by simp)
  have hb2 := ((Below.refl _ _).alloc (Nat.le_refl _) _).trans (hb.mono (by simp : w.heap.size ≤ _))
  go_wp2_with (refine wpList_store_row rfl 41 _ _ rfl w.heap.size cs rfl rfl 41 _ hz (by rw [hs.1]; exact crcInfo) (by rw [hs.1]; rfl) (hs.one (by omega)) ?_)
  refine bodyPost_ret (results_cell_row (g := w.heap.size) (t := 41) (cs := cs) (fr := (0, 0)) rfl _ _ _ rfl (hz.row cs) Try.underlying41 rfl (by rw [hs.1]; exact crcInfo)) rfl ⟨⟨cs, rfl, hs⟩, below_setRow hb2 (Nat.le_refl _) cs⟩

theorem below_newRow {z cs : Array Value} {t : TypeId} {w wd w4 : World} (hb : Below w.heap.size w wd) (h : Below ((wd.alloc (.cells z t)).setRow wd.heap.size cs).heap.size ((wd.alloc (.cells z t)).setRow wd.heap.size cs) w4) : Below w.heap.size w w4 :=
  (below_setRow (hb.alloc hb.size _) hb.size cs).trans (h.mono (below_setRow (hb.alloc hb.size _) hb.size cs).size)
theorem blk_newRow {z cs cs' : Array Value} {t t' : TypeId} {g : Nat} {wd w4 : World} (hs : Blk wd g t' cs') (h : Below ((wd.alloc (.cells z t)).setRow wd.heap.size cs).heap.size ((wd.alloc (.cells z t)).setRow wd.heap.size cs) w4) : Blk w4 g t' cs' :=
  have hs3 := (hs.alloc (.cells z t)).rowFar (g' := wd.heap.size) (by have := hs.lt; omega) cs
  hs3.below h hs3.lt

theorem crcFarN (c : BitVec 32) (n : Nat) (w : World) (h1 : n ≤ 9223372036854775807) :
    Calls Try.prog 23 #[.int .u32 (c.toNat : Int), .int .i64 (n : Int)] w fun e w' => e = .returned (.int .u32 ((Crc.Z n c).toNat : Int)) ∧ Below w.heap.size w w' := by
  go_enter Try.func23, Try.ntmps23
  go_wp2_with fail
  refine (crcNought _).mono ?_
  rintro e w1 ⟨⟨cs, rfl, hs⟩, hb⟩
  go_wp2_with (refine wpList_store_row rfl 41 _ _ rfl w1.heap.size cs rfl rfl 41 _ (Blk.new _ _ _) (by rw [hs.1]; exact crcInfo) (by rw [hs.1]; rfl) (hs.one (by omega)) ?_)
  have hbG := hb.size
  go_frame
  go_loopw [0, 1, 6] (fun r v _ wr => ∃ j : Nat, r = .int .u32 ((Crc.Z (n % 2 ^ j) c).toNat : Int) ∧ v = .int .i64 ((n / 2 ^ j : Nat) : Int) ∧ (∃ cs2, sq (Crc.Z (2 ^ j)) cs2 32 ∧ Blk wr w1.heap.size 41 cs2) ∧ Below w.heap.size w wr) (fun _ v _ _ => (intOf v).toNat)
  case atStart => exact ⟨0, by simp [Nat.mod_one, Crc.Z_none], by simp, ⟨cs, hs, (Blk.new _ _ _).row _⟩, below_setRow (hb.alloc hb.size _) hb.size cs⟩
  case round =>
    clear hs hb
    obtain ⟨j, rfl, rfl, ⟨cs2, hs, hbs⟩, hb⟩ := hrel
    have hm : n / 2 ^ j ≤ n := Nat.div_le_self _ _
    have hmod := Lib.hid (Nat.mod_mul (x := n) (a := 2 ^ j) (b := 2))
    have hdiv := Lib.hid (Nat.div_div_eq_div_mul n (2 ^ j) 2)
    have hlow : 0 < 2 ^ j := Nat.two_pow_pos j
    have hend : n / 2 ^ j = 0 → n % 2 ^ j = n := fun e => Nat.mod_eq_of_lt ((Nat.div_eq_zero_iff_lt hlow).1 e)
    have hend' := Lib.hid hend
    clear hend hlow
    generalize n / 2 ^ j = m at *
    have hway := fun x : BitVec 32 => Crc.ofTo_way (2 ^ j) x
    have hway' := Lib.hid hway
    clear hway
    by_cases hlt : 0 < m
    · have hq : ∃ q : BitVec 32, Hid (q = Crc.Z (n % 2 ^ (j + 1)) c) ∧ ((m % 2 = 1 ∧ Hid (q = Crc.Z (2 ^ j) (Crc.Z (n % 2 ^ j) c))) ∨ (m % 2 = 0 ∧ Hid (q = Crc.Z (n % 2 ^ j) c))) := by
        have hm := hmod.out
        rw [← Nat.pow_succ] at hm
        rcases Nat.mod_two_eq_zero_or_one m with e | e
        · exact ⟨_, by unfold Hid; rw [hm, e]; simp, .inr ⟨e, rfl⟩⟩
        · exact ⟨_, by unfold Hid; rw [hm, e, Nat.mul_one, Nat.add_comm, Crc.Z_add], .inl ⟨e, rfl⟩⟩
      obtain ⟨q, hq, ⟨hodd, hq2⟩ | ⟨hodd, hq2⟩⟩ := hq
      · have hand : bits .and .i64 (m : Int) 1 = 1 := by rw [i64_and_one m (by omega), hodd]; rfl
        go_wp2_with fail
        refine (crcOf _ (fun i => Crc.Z (2 ^ j) (Crc.bit i)) (Crc.Z (n % 2 ^ j) c) _ (hs.cells hbs)).mono ?_
        rintro e w2 ⟨rfl, d, rfl⟩
        rw [hway'.out, ← hq2.out]
        clear hand hodd hq2
        replace hbs := hbs.drewN d
        replace hb := below_drewN hb d
        generalize wr.drewN d = wd at *
        go_wp2_with (first | (refine wpList_load_row rfl 41 _ rfl w1.heap.size rfl 41 cs2 (0, 0) _ hbs Try.underlying41 rfl (by rw [hs.1]; exact crcInfo) ?_) | (refine wpList_store_row rfl 41 (.tmp 6) (.tmp 17) rfl wd.heap.size cs2 rfl rfl 41 _ (Blk.new _ _ _) (by rw [hs.1]; exact crcInfo) (by rw [hs.1]; rfl) (hs.one (by omega)) ?_))
        refine (crcMade 29 #[.pointer (some ⟨wd.heap.size, 0, none⟩)] (.inr ⟨rfl, _, rfl⟩) (Crc.Z (2 ^ j + 2 ^ j)) _ (fun x w4 hb4 => crcFar1 _ _ x cs2 w4 hs (((Blk.new wd 41 _).row cs2).below hb4 (by simp)))).mono ?_
        rintro e w4 ⟨⟨cs4, rfl, hs4⟩, hb4⟩
        replace hb := below_newRow hb hb4
        replace hbs := blk_newRow hbs hb4
        clear hb4
        go_wp2_with (refine wpList_store_row rfl 41 (.tmp 5) (.tmp 19) rfl w1.heap.size cs4 rfl rfl 41 _ hbs (by rw [hs4.1]; exact crcInfo) (by rw [hs4.1, hs.1]) (hs4.one (by omega)) ?_)
        exact ⟨⟨j + 1, nat_eq (congrArg _ hq.out), int_eq (by rw [Nat.pow_succ, ← hdiv.out]; omega), ⟨cs4, by rw [Nat.pow_succ, Nat.mul_two]; exact hs4, hbs.row _⟩, below_setRow hb hbG _⟩, by simp [intOf]; omega⟩
      · have hand : bits .and .i64 (m : Int) 1 = 0 := by rw [i64_and_one m (by omega), hodd]; rfl
        rw [← hq2.out]
        clear hodd hq2
        obtain ⟨wd, rfl⟩ : ∃ wd : World, wd = wr := ⟨_, rfl⟩
        go_wp2_with (first | (refine wpList_load_row rfl 41 _ rfl w1.heap.size rfl 41 cs2 (0, 0) _ hbs Try.underlying41 rfl (by rw [hs.1]; exact crcInfo) ?_) | (refine wpList_store_row rfl 41 (.tmp 6) (.tmp 17) rfl wd.heap.size cs2 rfl rfl 41 _ (Blk.new _ _ _) (by rw [hs.1]; exact crcInfo) (by rw [hs.1]; rfl) (hs.one (by omega)) ?_))
        clear hand
        refine (crcMade 29 #[.pointer (some ⟨wd.heap.size, 0, none⟩)] (.inr ⟨rfl, _, rfl⟩) (Crc.Z (2 ^ j + 2 ^ j)) _ (fun x w4 hb4 => crcFar1 _ _ x cs2 w4 hs (((Blk.new wd 41 _).row cs2).below hb4 (by simp)))).mono ?_
        rintro e w4 ⟨⟨cs4, rfl, hs4⟩, hb4⟩
        replace hb := below_newRow hb hb4
        replace hbs := blk_newRow hbs hb4
        clear hb4
        go_wp2_with (refine wpList_store_row rfl 41 (.tmp 5) (.tmp 19) rfl w1.heap.size cs4 rfl rfl 41 _ hbs (by rw [hs4.1]; exact crcInfo) (by rw [hs4.1, hs.1]) (hs4.one (by omega)) ?_)
        exact ⟨⟨j + 1, nat_eq (congrArg _ hq.out), int_eq (by rw [Nat.pow_succ, ← hdiv.out]; omega), ⟨cs4, by rw [Nat.pow_succ, Nat.mul_two]; exact hs4, hbs.row _⟩, below_setRow hb hbG _⟩, by simp [intOf]; omega⟩
    · obtain rfl : m = 0 := by omega
      go_wp2
      go_ret
      exact ⟨ret_eq (nat_eq (by rw [hend'.out trivial])), hb⟩

theorem crcFarNeg (c : BitVec 32) (n : Int) (w : World) (h1 : n < 0) :
    Calls Try.prog 23 #[.int .u32 (c.toNat : Int), .int .i64 n] w fun e w' => e = .returned (.int .u32 (c.toNat : Int)) ∧ Below w.heap.size w w' := by
  have h2 : ¬ 0 < n := by omega
  go_enter Try.func23, Try.ntmps23
  go_wp2_with fail
  refine (crcNought _).mono ?_
  rintro e w1 ⟨⟨cs, rfl, hs⟩, hb⟩
  go_wp2_with (refine wpList_store_row rfl 41 _ _ rfl w1.heap.size cs rfl rfl 41 _ (Blk.new _ _ _) (by rw [hs.1]; exact crcInfo) (by rw [hs.1]; rfl) (hs.one (by omega)) ?_)
  go_frame
  go_loopw [0, 1, 6] (fun r v _ wr => r = .int .u32 (c.toNat : Int) ∧ v = .int .i64 n ∧ Below w.heap.size w wr) (fun _ v _ _ => (intOf v).toNat)
  case atStart => exact ⟨rfl, rfl, below_setRow (hb.alloc hb.size _) hb.size cs⟩
  case round =>
    clear hb
    obtain ⟨rfl, rfl, hb⟩ := hrel
    go_wp2
    go_ret
    exact ⟨rfl, hb⟩

theorem crcFar (c : BitVec 32) (n : Int) (w : World) (h1 : n ≤ 9223372036854775807) :
    Calls Try.prog 23 #[.int .u32 (c.toNat : Int), .int .i64 n] w fun e w' => e = .returned (.int .u32 ((Crc.Z n.toNat c).toNat : Int)) ∧ Below w.heap.size w w' := by
  rcases Int.lt_or_le n 0 with h | h
  · rw [Int.toNat_of_nonpos (by omega)]
    exact crcFarNeg c n w h
  · obtain ⟨k, rfl⟩ := Int.eq_ofNat_of_zero_le h
    exact crcFarN c k w (by omega)
end Go.Proofs.Ytlfdphiakbnkmaa
