/- The law ShardTells. -/
import Derived.Test.YtpkpdamdclafjaaShdLaw
import Derived.Test.YtpkpdamdclafjaaShdE
import Derived.Test.YtpkpdamdclafjaaShdA
import Derived.Test.YtpkpdamdclafjaaRowsB
set_option linter.unusedVariables false
set_option linter.unusedSimpArgs false
set_option maxRecDepth 40000
namespace Shd
theorem getS_ok (b : List UInt8) : (getS b).1.ok := by
  unfold getS
  by_cases h1 : b.length ≠ 64
  · rw [if_pos h1]; exact nul_ok
  · rw [if_neg h1]
    by_cases h2 : at_ b 60 4 ≠ (Crc.more 0#32 (b.take 60)).toNat
    · rw [if_pos h2]; exact nul_ok
    · rw [if_neg h2]
      by_cases h3 : kindB (at_ b 0 1) = false ∨ at_ b 14 2 ≠ 0
      · rw [if_pos h3]; exact nul_ok
      · rw [if_neg h3]; exact readS_ok (by omega)
end Shd
namespace Cib
open Go Go.RowKit Go.Proofs

theorem refGet (A : Option Addr) (cap : Nat) (b : List UInt8) (w : World) (B : Nat) (h : Rd w B A (b.map bv)) {len : Nat} (hn : b.length = len) (hcap : len ≤ cap) (hcm : cap ≤ maxLen) (hB : B ≤ w.heap.size) :
    Calls Try.prog 17 #[.slice A len cap] w (GetOut b w) := by
  by_cases hl : len = 64
  · subst hl
    by_cases hs : Shd.at_ b 60 4 = (Crc.more 0#32 (b.take 60)).toNat
    · exact refGetRest A cap b w B h hn hcap hcm hB hs
    · exact refGetSum A cap b w B h hn hcap hcm hB hs
  · exact refGet2 A cap b w hn hl
theorem exec_load_row {P : Program} {o : Oper} {a : Act} {w : World} (ty : TypeId) (x : Operand) (ho : o.op = .load ty x) (g : Nat) (hx : a.eval x = .pointer (some ⟨g, 0, none⟩)) (t : TypeId) (cs : Array Value) (fr : Nat × Nat) (d : TypeDesc)
    (hg : w.heap[g]? = some (.cells cs t fr)) (hu : P.underlying ty = some d) (hd : d.isRow = true) (hi : (P.info? ty).map (·.size) = some cs.size) :
    (execOp a.eval o).run P w = .ok (.value (.agg cs)) w := by
  unfold execOp
  simp only [ho, hx, Instr.loadAt, Instr.sureAddr, Sem.run_bind, Sem.run_pure, Result.andThen_ok, run_loadVar_row w g t ty cs fr d hg hu (by cases d <;> simp_all [TypeDesc.isRow]) hi]
set_option maxHeartbeats 4000000 in
theorem lawTells (s : Shd.Sh) (hs : s.ok) (A : Option Addr) (cap : Nat) (bs : List UInt8) (rk rp rg ix : Int) (w : World) (h : Rd w w.heap.size A (bs.map bv)) (hcap : bs.length ≤ cap) (hcm : cap ≤ maxLen) :
    Calls Try.prog 5 #[.agg (shC s), .slice A bs.length cap, .agg #[.int .u8 rk, .int .i64 rp, .int .u64 rg], .int .i64 ix] w fun e w' => e = .returned (.bool true) ∧ Below w.heap.size w w' := by
  have HL := Lib.hid (fun W => lies W)
  have hcm' := hcm
  unfold maxLen at hcm'
  by_cases hlt : 200 < bs.length
  · generalize shC s = C at *
    go_enter Try.func5, Try.ntmps5
    go_wp2_with fail
    refine (HL.out _).mono ?_
    rintro e w' ⟨rfl, hb⟩
    go_wp2
    go_ret
    exact ⟨rfl, (((Below.refl _ _).alloc (Nat.le_refl _) _).alloc (by simp) _).trans (hb.mono (by simp; omega))⟩
  have HP := Lib.hid (fun W => shdPut s hs W)
  have HR := Lib.hid (fun W => refPutS s hs W)
  have HSZ := Lib.hid (shCsize s hs)
  have HI1 := Lib.hid (fun W => shdIs 14 (.inl rfl) s hs rk rp rg ix W)
  have HI2 := Lib.hid (fun W => shdIs 15 (.inr rfl) s hs rk rp rg ix W)
  obtain ⟨ib, HIB⟩ : ∃ ib, Hid (isB s rk rp rg ix = ib) := ⟨_, rfl⟩
  rw [HIB.out] at HI1 HI2
  obtain ⟨q, er, HPS⟩ : ∃ q er, Hid (Shd.putS s = (q, er)) := ⟨_, _, rfl⟩
  rw [HPS.out] at HP HR
  simp only at HP HR
  have HZ := Lib.hid shdZero
  have HZS := Lib.hid (shCsize Shd.nul Shd.nul_ok)
  obtain ⟨C, hC⟩ : ∃ C, Hid (shC s = C) := ⟨_, rfl⟩
  obtain ⟨Z, hZ⟩ : ∃ Z, Hid (shC Shd.nul = Z) := ⟨_, rfl⟩
  rw [hC.out] at HP HR HSZ HI1 HI2 ⊢
  rw [hZ.out] at HZ HZS
  clear HIB HPS
  go_enter Try.func5, Try.ntmps5
  go_wp2_with (refine wpList_load_row rfl 26 (.tmp 4) rfl w.heap.size rfl 26 C (0, 0) _ ((Blk.new _ _ _).alloc _) Try.underlying26 rfl (by rw [HSZ.out]; exact shdInfo) ?_)
  have hv1 := (Blk.new w 26 C).alloc (.cells #[.int .u8 rk, .int .i64 rp, .int .u64 rg] 44)
  have hr1 : Blk ((w.alloc (.cells C 26)).alloc (.cells #[.int .u8 rk, .int .i64 rp, .int .u64 rg] 44)) (w.heap.size + 1) 44 #[.int .u8 rk, .int .i64 rp, .int .u64 rg] := by
    simpa using Blk.new (w.alloc (.cells C 26)) 44 #[.int .u8 rk, .int .i64 rp, .int .u64 rg]
  have hb1 : Below w.heap.size w ((w.alloc (.cells C 26)).alloc (.cells #[.int .u8 rk, .int .i64 rp, .int .u64 rg] 44)) := ((Below.refl _ _).alloc (Nat.le_refl _) _).alloc (by simp) _
  generalize (w.alloc (.cells C 26)).alloc (.cells #[.int .u8 rk, .int .i64 rp, .int .u64 rg] 44) = w1 at *
  refine (HP.out _).mono ?_
  rintro e w2 ⟨A2, n2, c2, rfl, hn2, ho2, hb2⟩
  have hv2 := hv1.below hb2 hv1.lt
  have hr2 := hr1.below hb2 hr1.lt
  have hx2 : RowB.Ok w2 w.heap.size ⟨A2, n2, c2, q⟩ := RowB.Ok.of_own ho2 hn2
  replace hb2 := hb1.via hb2
  clear hv1 hr1 hb1 ho2 hn2 HP
  go_wp2_with (refine wpList_load_row rfl 26 (.tmp 4) rfl w.heap.size rfl 26 C (0, 0) _ hv2 Try.underlying26 rfl (by rw [HSZ.out]; exact shdInfo) ?_)
  refine (HR.out _).mono ?_
  rintro e w3 ⟨A3, n3, c3, rfl, hn3, ho3, hb3⟩
  have hv3 := hv2.below hb3 hv2.lt
  have hr3 := hr2.below hb3 hr2.lt
  have hx3 := hx2.below hb3
  have hy3 : RowB.Ok w3 w.heap.size ⟨A3, n3, c3, q⟩ := RowB.Ok.of_own ho3 hn3
  replace hb3 := hb2.via hb3
  clear hv2 hr2 hb2 ho3 hn3 HR hx2
  have HX3 := Lib.hid hx3
  have HY3 := Lib.hid hy3
  have HV3 := Lib.hid hv3
  have HRF := Lib.hid hr3
  have HCL := Lib.hid (fun W (hW : Below w3.heap.size w3 W) => (hv3.below hW hv3.lt))
  have HCR := Lib.hid (fun W (hW : Below w3.heap.size w3 W) => (hr3.below hW hr3.lt))
  go_wp2_with fail
  refine wp_region_held_drew (S := (fun w' => Below (World.heap (w3.drew)).size (w3.drew) w')) (by kernel_rfl) (by exact Below.refl _ _) (fun _ => ?_)
  refine wpAnyH_take (i := 0) (v := ?_) rfl (by kernel_rfl) (by kernel_rfl) (by kernel_rfl) (fun _ _ _ h => h) (Or.inl ⟨by rfl, ?_⟩) (Below.refl _ _) ?_
  rotate_left
  · intro wS hSw
    go_simp
    try with_reducible rfl
  try simp only [List.getElem_toArray, List.getElem_cons_zero, List.getElem_cons_succ, Act.put, List.setIfInBounds_toArray, List.set_cons_zero, List.set_cons_succ]
  refine wpAnyH_take (i := 2) (v := ?_) rfl (by kernel_rfl) (by kernel_rfl) (by kernel_rfl) (fun _ _ _ h => h) (Or.inl ⟨by rfl, ?_⟩) (Below.refl _ _) ?_
  rotate_left
  · intro wS hSw
    go_simp
    try with_reducible rfl
  try simp only [List.getElem_toArray, List.getElem_cons_zero, List.getElem_cons_succ, Act.put, List.setIfInBounds_toArray, List.set_cons_zero, List.set_cons_succ]
  refine wpAnyH_take (i := 1) (v := ?_) rfl (by kernel_rfl) (by kernel_rfl) (by kernel_rfl) (fun _ _ _ h => h) (Or.inl ⟨by rfl, ?_⟩) (Below.refl _ _) ?_
  rotate_left
  · intro wS hSw
    have hcv := str_run (HX3.out.rd.drew) hSw (Nat.le_refl _) HX3.out.len c2
    go_simp
    try with_reducible rfl
  try simp only [List.getElem_toArray, List.getElem_cons_zero, List.getElem_cons_succ, Act.put, List.setIfInBounds_toArray, List.set_cons_zero, List.set_cons_succ]
  refine wpAnyH_take (i := 3) (v := ?_) rfl (by kernel_rfl) (by kernel_rfl) (by kernel_rfl) (fun _ _ _ h => h) (Or.inl ⟨by rfl, ?_⟩) (Below.refl _ _) ?_
  rotate_left
  · intro wS hSw
    have hcv := str_run (HY3.out.rd.drew) hSw (Nat.le_refl _) HY3.out.len c3
    go_simp
    try with_reducible rfl
  try simp only [List.getElem_toArray, List.getElem_cons_zero, List.getElem_cons_succ, Act.put, List.setIfInBounds_toArray, List.set_cons_zero, List.set_cons_succ]
  refine wpAnyH_take (i := 4) (v := ?_) rfl (by kernel_rfl) (by kernel_rfl) (by kernel_rfl) (fun _ _ _ h => h) (Or.inl ⟨by rfl, ?_⟩) (Below.refl _ _) ?_
  rotate_left
  · intro wS hSw
    go_simp
    try with_reducible rfl
  try simp only [List.getElem_toArray, List.getElem_cons_zero, List.getElem_cons_succ, Act.put, List.setIfInBounds_toArray, List.set_cons_zero, List.set_cons_succ]
  refine wpAnyH_take (i := 5) (v := ?_) rfl (by kernel_rfl) (by kernel_rfl) (by kernel_rfl) (fun _ _ _ h => h) (Or.inl ⟨by rfl, ?_⟩) (Below.refl _ _) ?_
  rotate_left
  · intro wS hSw
    go_simp
    try with_reducible rfl
  try simp only [List.getElem_toArray, List.getElem_cons_zero, List.getElem_cons_succ, Act.put, List.setIfInBounds_toArray, List.set_cons_zero, List.set_cons_succ]
  refine wpAnyH_take (i := 6) (v := ?_) rfl (by kernel_rfl) (by kernel_rfl) (by kernel_rfl) (fun _ _ _ h => h) (Or.inl ⟨by rfl, ?_⟩) (Below.refl _ _) ?_
  rotate_left
  · intro wS hSw
    go_simp
    try with_reducible rfl
  try simp only [List.getElem_toArray, List.getElem_cons_zero, List.getElem_cons_succ, Act.put, List.setIfInBounds_toArray, List.set_cons_zero, List.set_cons_succ]
  refine wpAnyH_take (i := 7) (v := ?_) rfl (by kernel_rfl) (by kernel_rfl) (by kernel_rfl) (fun _ _ _ h => h) (Or.inl ⟨by rfl, ?_⟩) (Below.refl _ _) ?_
  rotate_left
  · intro wS hSw
    go_simp
    try with_reducible rfl
  try simp only [List.getElem_toArray, List.getElem_cons_zero, List.getElem_cons_succ, Act.put, List.setIfInBounds_toArray, List.set_cons_zero, List.set_cons_succ]
  refine wpAnyH_take (i := 8) (v := ?_) rfl (by kernel_rfl) (by kernel_rfl) (by kernel_rfl) (fun _ _ _ h => h) (Or.inl ⟨by rfl, ?_⟩) (Below.refl _ _) ?_
  rotate_left
  · intro wS hSw
    go_simp
    try with_reducible rfl
  try simp only [List.getElem_toArray, List.getElem_cons_zero, List.getElem_cons_succ, Act.put, List.setIfInBounds_toArray, List.set_cons_zero, List.set_cons_succ]
  refine wpAnyH_take (i := 9) (v := ?_) rfl (by kernel_rfl) (by kernel_rfl) (by kernel_rfl) (fun _ _ _ h => h) (Or.inl ⟨by rfl, ?_⟩) (Below.refl _ _) ?_
  rotate_left
  · intro wS hSw
    go_simp
    try with_reducible rfl
  try simp only [List.getElem_toArray, List.getElem_cons_zero, List.getElem_cons_succ, Act.put, List.setIfInBounds_toArray, List.set_cons_zero, List.set_cons_succ]
  refine wpAnyH_take (i := 10) (v := ?_) rfl (by kernel_rfl) (by kernel_rfl) (by kernel_rfl) (fun _ _ _ h => h) (Or.inl ⟨by rfl, ?_⟩) (Below.refl _ _) ?_
  rotate_left
  · intro wS hSw
    go_simp
    try with_reducible rfl
  try simp only [List.getElem_toArray, List.getElem_cons_zero, List.getElem_cons_succ, Act.put, List.setIfInBounds_toArray, List.set_cons_zero, List.set_cons_succ]
  refine wpAnyH_take (i := 13) (v := ?_) rfl (by kernel_rfl) (by kernel_rfl) (by kernel_rfl) (fun _ _ _ h => h) (Or.inl ⟨by rfl, ?_⟩) (Below.refl _ _) ?_
  rotate_left
  · intro wS hSw
    go_simp
    try with_reducible rfl
  try simp only [List.getElem_toArray, List.getElem_cons_zero, List.getElem_cons_succ, Act.put, List.setIfInBounds_toArray, List.set_cons_zero, List.set_cons_succ]
  refine wpAnyH_take (i := 17) (v := ?_) rfl (by kernel_rfl) (by kernel_rfl) (by kernel_rfl) (fun _ _ _ h => h) (Or.inl ⟨by rfl, ?_⟩) (Below.refl _ _) ?_
  rotate_left
  · intro wS hSw
    go_simp
    try with_reducible rfl
  try simp only [List.getElem_toArray, List.getElem_cons_zero, List.getElem_cons_succ, Act.put, List.setIfInBounds_toArray, List.set_cons_zero, List.set_cons_succ]
  refine wpAnyH_take (i := 11) (v := ?_) rfl (by kernel_rfl) (by kernel_rfl) (by kernel_rfl) (fun _ _ _ h => h) (Or.inl ⟨by rfl, ?_⟩) (Below.refl _ _) ?_
  rotate_left
  · intro wS hSw
    -- MISSING conv 11 slot some 44
    refine Eq.trans (exec_load_row 26 (.tmp 4) (by rfl) w.heap.size (by rfl) 26 C (0, 0) _ (Blk.below (HV3.out.drewN 1) hSw (by exact HV3.out.lt)) Try.underlying26 rfl (by rw [HSZ.out]; exact shdInfo)) ?_
    with_reducible rfl
  try simp only [List.getElem_toArray, List.getElem_cons_zero, List.getElem_cons_succ, Act.put, List.setIfInBounds_toArray, List.set_cons_zero, List.set_cons_succ]
  refine wpAnyH_take (i := 12) (v := ?_) rfl (by kernel_rfl) (by kernel_rfl) (by kernel_rfl) (fun _ _ _ h => h) (Or.inl ⟨by rfl, ?_⟩) (Below.refl _ _) ?_
  rotate_left
  · intro wS hSw
    -- MISSING conv 12 slot some 45
    refine Eq.trans (exec_load_row 44 (.tmp 6) (by rfl) (w.heap.size + 1) (by rfl) 44 _ (0, 0) _ (Blk.below (HRF.out.drewN 1) hSw (by exact HRF.out.lt)) Try.underlying44 rfl (by kernel_rfl)) ?_
    with_reducible rfl
  try simp only [List.getElem_toArray, List.getElem_cons_zero, List.getElem_cons_succ, Act.put, List.setIfInBounds_toArray, List.set_cons_zero, List.set_cons_succ]
  refine wpAnyH_take (i := 15) (v := ?_) rfl (by kernel_rfl) (by kernel_rfl) (by kernel_rfl) (fun _ _ _ h => h) (Or.inl ⟨by rfl, ?_⟩) (Below.refl _ _) ?_
  rotate_left
  · intro wS hSw
    -- MISSING conv 15 slot some 48
    refine Eq.trans (exec_load_row 26 (.tmp 4) (by rfl) w.heap.size (by rfl) 26 C (0, 0) _ (Blk.below (HV3.out.drewN 1) hSw (by exact HV3.out.lt)) Try.underlying26 rfl (by rw [HSZ.out]; exact shdInfo)) ?_
    with_reducible rfl
  try simp only [List.getElem_toArray, List.getElem_cons_zero, List.getElem_cons_succ, Act.put, List.setIfInBounds_toArray, List.set_cons_zero, List.set_cons_succ]
  refine wpAnyH_take (i := 16) (v := ?_) rfl (by kernel_rfl) (by kernel_rfl) (by kernel_rfl) (fun _ _ _ h => h) (Or.inl ⟨by rfl, ?_⟩) (Below.refl _ _) ?_
  rotate_left
  · intro wS hSw
    -- MISSING conv 16 slot some 49
    refine Eq.trans (exec_load_row 44 (.tmp 6) (by rfl) (w.heap.size + 1) (by rfl) 44 _ (0, 0) _ (Blk.below (HRF.out.drewN 1) hSw (by exact HRF.out.lt)) Try.underlying44 rfl (by kernel_rfl)) ?_
    with_reducible rfl
  try simp only [List.getElem_toArray, List.getElem_cons_zero, List.getElem_cons_succ, Act.put, List.setIfInBounds_toArray, List.set_cons_zero, List.set_cons_succ]
  refine wpAnyH_ready (rs := [14]) (by kernel_rfl) (by simp) ?_
  refine AllReadyH.cons rfl (fun K hK => ?_) AllReadyH.nil
  go_simp
  refine (HI1.out _).mono ?_
  rintro e w4 ⟨rfl, hb4⟩
  refine hK.out _ _ hb4 (fun _ => ?_)
  clear hK K
  try simp only [List.getElem_toArray, List.getElem_cons_zero, List.getElem_cons_succ, Act.put, List.setIfInBounds_toArray, List.set_cons_zero, List.set_cons_succ]
  refine wpAnyH_strong (S2 := fun w' => Below (World.heap w4).size w4 w') (fun _ h => Below.via hb4 h) ?_
  refine wpAnyH_ready (rs := [18]) (by kernel_rfl) (by simp) ?_
  refine AllReadyH.cons rfl (fun K hK => ?_) AllReadyH.nil
  go_simp
  refine (HI2.out _).mono ?_
  rintro e w5 ⟨rfl, hb5⟩
  refine hK.out _ _ hb5 (fun _ => ?_)
  clear hK K
  try simp only [List.getElem_toArray, List.getElem_cons_zero, List.getElem_cons_succ, Act.put, List.setIfInBounds_toArray, List.set_cons_zero, List.set_cons_succ]
  refine wpAnyH_strong (S2 := fun w' => Below (World.heap w5).size w5 w') (fun _ h => Below.via hb5 h) ?_
  refine wpAnyH_take (i := 19) (v := ?_) rfl (by kernel_rfl) (by kernel_rfl) (by kernel_rfl) (fun _ _ _ h => h) (Or.inl ⟨by rfl, ?_⟩) (Below.refl _ _) ?_
  rotate_left
  · intro wS hSw
    go_simp
    try with_reducible rfl
  try simp only [List.getElem_toArray, List.getElem_cons_zero, List.getElem_cons_succ, Act.put, List.setIfInBounds_toArray, List.set_cons_zero, List.set_cons_succ]
  refine wpAnyH_take (i := 20) (v := ?_) rfl (by kernel_rfl) (by kernel_rfl) (by kernel_rfl) (fun _ _ _ h => h) (Or.inl ⟨by rfl, ?_⟩) (Below.refl _ _) ?_
  rotate_left
  · intro wS hSw
    go_simp
    try with_reducible rfl
  try simp only [List.getElem_toArray, List.getElem_cons_zero, List.getElem_cons_succ, Act.put, List.setIfInBounds_toArray, List.set_cons_zero, List.set_cons_succ]
  refine wpAnyH_done (by kernel_rfl) ?_ _
  have hb6 : Below w.heap.size w w5 := ((below_drewN hb3 1).via hb4).via hb5
  have hx6 := ((HX3.out.drewN 1).below hb4).below hb5
  clear hb4 hb5 hb3 hx3 hy3 hv3 hr3 HX3 HY3 HV3 HRF HCL HCR HI1 HI2
  have hbz := hb6.size
  -- the rows that are looked at
  obtain ⟨L0, hL0⟩ : ∃ L0 : List RowB, L0 = [⟨A, bs.length, cap, bs⟩, ⟨A2, n2, c2, q⟩] := ⟨_, rfl⟩
  have hrw0 : RowsOk w5 w.heap.size L0 := by
    rw [hL0]
    exact RowsOk.cons (RowB.At.ok ⟨h.below hb6, rfl, hcap, hcm⟩ hbz) (RowsOk.cons hx6 RowsOk.nil)
  go_upto_if 59 with fail
  have ho6 : (w5.alloc (.cells #[.slice A bs.length cap, .slice A2 n2 c2] 28)).ownsRow w.heap.size 28 1 (.slice (some ⟨w5.heap.size, 0, none⟩) 2 2) 2 (L0.map RowB.v) := by
    rw [hL0]
    exact own_new (n := 2) w5 _ #[.slice A bs.length cap, .slice A2 n2 c2] hbz rfl (by unfold maxLen; omega) rfl
  have hb7 := hb6.alloc hbz (.cells #[.slice A bs.length cap, .slice A2 n2 c2] 28)
  have hrw6 := hrw0.below ((Below.refl w5.heap.size w5).alloc (Nat.le_refl _) (.cells #[.slice A bs.length cap, .slice A2 n2 c2] 28))
  have hL0l : L0.length = 2 := by rw [hL0]; rfl
  have HL0 := Lib.hid hL0l
  clear hL0 hL0l hrw0 hx6 hb6
  generalize (w5.alloc (.cells #[.slice A bs.length cap, .slice A2 n2 c2] 28)) = w6 at *
  generalize w5.heap.size = g5 at *
  go_cut [13] (fun v wx => ∃ (L : List RowB) (A' : Option Addr) (n' c' : Nat), v = .slice A' n' c' ∧ Hid (L.length = n') ∧ n' ≤ 3 ∧ Below w.heap.size w wx ∧ wx.ownsRow w.heap.size 28 1 (.slice A' n' c') n' (L.map RowB.v) ∧ RowsOk wx w.heap.size L)
  case first =>
    by_cases h60 : 60 ≤ bs.length
    · have hsl := fun W : World => run_cut_to (P := Try.prog) 28 5 Try.underlying28 sizeByte A bs.length cap 60 .i64 (by omega) W
      have h6c : (60 : Int) ≤ (cap : Int) := by omega
      have ht : Rd w6 w.heap.size A ((bs.take 60).map bv) := by rw [List.map_take]; exact (h.below hb7).take 60
      have HTL : Hid ((bs.take 60).length = 60) := by (show _ = _; rw [List.length_take]; omega)
      go_wp2_with fail
      refine (refClosed A cap (bs.take 60) w6 _ ht HTL.out hb7.size (by decide)).mono ?_
      rintro e w7 ⟨A7, n7, c7, rfl, hn7, ho7, hb8⟩
      have hx7 : RowB.Ok w7 w.heap.size ⟨A7, n7, c7, Shd.closed (bs.take 60)⟩ := RowB.Ok.of_own ho7 hn7
      replace hb7 := hb7.via hb8
      have hrw7 := (hrw6.below hb8).append (RowsOk.cons hx7 RowsOk.nil)
      have ho67 := own_via ho6 hb8
      have hz7 := hb7.size
      clear hb8 ho6 hrw6 ho7 hn7 ht hsl hx7
      have hrw8 := hrw7.below ((Below.refl w7.heap.size w7).alloc (Nat.le_refl _) (.cells #[.slice A7 n7 c7] 28))
      have ho8' := ho67.alloc (.cells #[.slice A7 n7 c7] 28)
      go_wp2_with (at_builtin; refine appR _ rfl (.tmp 60) (.tmp 64) rfl w.heap.size (some ⟨g5, 0, none⟩) 2 2 _ rfl ho8' _ (some ⟨w7.heap.size, 0, none⟩) 1 1 [RowB.v ⟨A7, n7, c7, Shd.closed (bs.take 60)⟩] rfl rfl (Rd.new w7 _ _ _ rfl) (one_rows (L := [⟨A7, n7, c7, Shd.closed (bs.take 60)⟩])) (by decide) (by simp; omega) ?_; intro A8 c8 w8 ho8 hg8 hb8)
      go_meet
      refine ⟨_, A8, 3, c8, rfl, ?_, by decide, (hb7.alloc hz7 _).trans hb8, ?_, hrw8.grown hg8 ho8' rowNe⟩
      · show _ = _
        rw [List.length_append, HL0.out]
        rfl
      · rw [List.map_append]
        exact ho8
    · go_wp2
      go_meet
      exact ⟨L0, _, 2, 2, rfl, HL0.out, by decide, hb7, ho6, hrw6⟩
  case rest =>
    obtain ⟨L, A9, n9, c9, rfl, HLL, hn9, hb9, ho9, hrw9⟩ := hcut
    have hr9 := Rd.of_own ho9
    clear hb7 hrw6 ho6 HL0 ho9
    go_wp2
    go_loopw [14, 15, 16, 17, 18] (fun i _ _ _ _ wr => ∃ k : Nat, k ≤ n9 ∧ i = .int .i64 k ∧ Below wc.heap.size wc wr) (fun i _ _ _ _ _ => n9 - (intOf i).toNat)
    case atStart => exact ⟨0, Nat.zero_le _, rfl, Below.refl _ _⟩
    case round =>
      obtain ⟨k, hk, rfl, hb⟩ := hrel
      by_cases hlt9 : k < n9
      · have hk9 : k < L.length := by rw [HLL.out]; exact hlt9
        have hrk := (hrw9.below hb).get hk9
        obtain ⟨ad, rfl, hgl, hcell⟩ := (hr9.below hb).row hk9
        obtain ⟨r, hr⟩ : ∃ r, L[k] = r := ⟨_, rfl⟩
        rw [hr] at hcell hrk
        clear hr
        obtain ⟨Ar, nr, cr, xr⟩ := r
        go_wp2_with fail
        refine (shdGet Ar cr xr wr _ hrk.rd hrk.len hrk.cap hrk.max (Nat.le_refl _)).mono ?_
        intro e wa hga
        unfold GetOut at hga
        obtain ⟨rfl, hba⟩ := hga
        obtain ⟨y, hy⟩ : ∃ y, Hid ((Shd.getS xr).1 = y) := ⟨_, rfl⟩
        obtain ⟨ey, hey⟩ : ∃ ey, Hid ((Shd.getS xr).2 = ey) := ⟨_, rfl⟩
        have hyo := Shd.getS_ok xr
        have HNE := Lib.hid (fun W => run_shdNeq (Shd.getS xr).1 hyo W)
        have HDS := Lib.hid (shCsize (Shd.getS xr).1 hyo)
        have HDO := Lib.hid (shC_one (Shd.getS xr).1)
        obtain ⟨D, hD⟩ : ∃ D, Hid (shC (Shd.getS xr).1 = D) := ⟨_, rfl⟩
        rw [hD.out] at HNE HDS HDO ⊢
        rw [hey.out]
        have hrka := hrk.below hba
        have hcella := (World.cell?_of_block (a := ad.add k) (show wa.heap[(ad.add k).block]? = wr.heap[(ad.add k).block]? by rw [addr_add_block]; exact hba.block _ (Nat.lt_of_lt_of_le hgl hb.size))).trans hcell
        replace hb := hb.via hba
        clear hba hcell
        go_upto_region 14 with (first | (refine wpList_allocAs rfl 26 rfl Z HZ.out ?_) | (refine wpList_store_row rfl 26 _ _ rfl wa.heap.size D rfl rfl 26 Z (Blk.new _ _ _) (by rw [HDS.out]; exact shdInfo) (by rw [HZS.out, HDS.out]) HDO.out ?_))
        have hbb : Below wa.heap.size wa ((wa.alloc (.cells Z 26)).setRow wa.heap.size D) := below_setRow ((Below.refl _ _).alloc (Nat.le_refl _) _) (Nat.le_refl _) D
        have hrkb := hrka.below hbb
        have hgb := (Blk.new wa 26 Z).row D
        have hcellb : ((wa.alloc (.cells Z 26)).setRow wa.heap.size D).cell? (ad.add k) = some (.slice Ar nr cr) :=
          (World.cell?_of_block (a := ad.add k) (show ((wa.alloc (.cells Z 26)).setRow wa.heap.size D).heap[(ad.add k).block]? = wa.heap[(ad.add k).block]? by rw [addr_add_block]; exact hbb.block _ (Nat.lt_of_lt_of_le hgl hb.size))).trans hcella
        replace hb := hb.via hbb
        generalize ((wa.alloc (.cells Z 26)).setRow wa.heap.size D) = wb at *
        generalize wa.heap.size = g at *
        clear hbb hrka hcella hrk
        go_wp2_with fail
        refine (refGet Ar cr xr wb _ hrkb.rd hrkb.len hrkb.cap hrkb.max (Nat.le_refl _)).mono ?_
        intro e wd hgd
        unfold GetOut at hgd
        obtain ⟨rfl, hbd⟩ := hgd
        rw [hD.out]
        rw [hey.out]
        have hgd := hgb.below hbd hgb.lt
        replace hb := hb.via hbd
        clear hbd hcellb hrkb hgb
        go_upto_region 15 with (first | (refine wpList_allocAs rfl 26 rfl Z HZ.out ?_) | (refine wpList_store_row rfl 26 _ _ rfl wd.heap.size D rfl rfl 26 Z (Blk.new _ _ _) (by rw [HDS.out]; exact shdInfo) (by rw [HZS.out, HDS.out]) HDO.out ?_))
        have hgx := (hgd.alloc (.cells Z 26)).rowFar (g' := wd.heap.size) (by have := hgd.lt; omega) D
        have hge := (Blk.new wd 26 Z).row D
        replace hb := below_setRow (hb.alloc hb.size (.cells Z 26)) hb.size D
        generalize ((wd.alloc (.cells Z 26)).setRow wd.heap.size D) = we at *
        generalize wd.heap.size = g2 at *
        clear hgd
        have hne := HNE.out
        go_wp2_with (first | (refine wpList_load_row rfl 26 (.tmp 15) rfl g rfl 26 D (0, 0) _ hgx Try.underlying26 rfl (by rw [HDS.out]; exact shdInfo) ?_) | (refine wpList_load_row rfl 26 (.tmp 17) rfl g2 rfl 26 D (0, 0) _ hge Try.underlying26 rfl (by rw [HDS.out]; exact shdInfo) ?_))
        go_round
        · exact ⟨k + 1, hlt9, by simp, hb⟩
        · show n9 - ((k : Int) + 1).toNat < n9 - (k : Int).toNat
          omega
      · go_wp2_with (go_at_call 8; refine (HL.out _).mono ?_; rintro e w10 ⟨rfl, hb10⟩)
        go_ret
        exact ⟨rfl, (hb9.via hb).via hb10⟩
end Cib
