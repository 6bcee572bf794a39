/- The law MatrixLooks (printed by genLk.py). -/
import Derived.Test.YtnicfpkadiamaaaMatPk
import Derived.Test.YtnicfpkadiamaaaMatCh
set_option linter.unusedVariables false
set_option linter.unusedSimpArgs false
set_option maxRecDepth 40000
namespace Cib
open Go Go.RowKit Go.Proofs
/-- Both answer the same rows, or none. -/
theorem pickBoth (r c : Int) (A : Option Addr) (n k : Nat) (bs : List UInt8) (Ar : Option Addr) (m kr : Nat) (xs : List Int) (hl1 : bs.length = n) (hl2 : xs.length = m) (hk : n ≤ k) (hn : n ≤ 140737488355328) (hm : m ≤ 300) :
    ∃ (r' c' : Int) (n' : Nat) (F : List UInt8) (err : Int), F.length = n' ∧
      (∀ W, Rd W W.heap.size A (bs.map bv) → Rd W W.heap.size Ar (xs.map (Value.int .i64)) → Calls Try.prog 21 #[.agg (mv r c A n k), .slice Ar m kr] W (AnyE r' c' n' F err W)) ∧
      (∀ W, Rd W W.heap.size A (bs.map bv) → Rd W W.heap.size Ar (xs.map (Value.int .i64)) → Calls Try.prog 22 #[.agg (mv r c A n k), .slice Ar m kr] W (AnyE r' c' n' F err W)) := by
  by_cases hp : pkB r c n xs = true
  · refine ⟨xs.length, c, xs.length * c.toNat, Lin.pickL c.toNat bs (xs.map Int.toNat), 0, by rw [Lin.pickL_length, List.length_map], fun W h1 h2 => ?_, fun W h1 h2 => ?_⟩
    · refine (matPick r c A n k bs Ar m kr xs W h1 h2 hl1 hl2 hk hn hm).mono fun e w' hR => ?_
      rcases hR with ⟨_, A', k', he, ho, hb⟩ | ⟨hf, _⟩
      · exact ⟨A', k', he, ho, hb⟩
      · rw [hp] at hf; cases hf
    · refine (refPick r c A n k bs Ar m kr xs W h1 h2 hl1 hl2 hk hm).mono fun e w' hR => ?_
      rcases hR with ⟨_, A', k', he, ho, hb⟩ | ⟨hf, _⟩
      · exact ⟨A', k', he, ho, hb⟩
      · rw [hp] at hf; cases hf
  · refine ⟨0, 0, 0, [], 2, rfl, fun W h1 h2 => ?_, fun W h1 h2 => ?_⟩
    · refine (matPick r c A n k bs Ar m kr xs W h1 h2 hl1 hl2 hk hn hm).mono fun e w' hR => ?_
      rcases hR with ⟨ht, _⟩ | ⟨_, he, hb⟩
      · exact absurd ht hp
      · exact ⟨none, 0, he, World.ownsRow_nil _ _ _ _, hb⟩
    · refine (refPick r c A n k bs Ar m kr xs W h1 h2 hl1 hl2 hk hm).mono fun e w' hR => ?_
      rcases hR with ⟨ht, _⟩ | ⟨_, he, hb⟩
      · exact absurd ht hp
      · exact ⟨none, 0, he, World.ownsRow_nil _ _ _ _, hb⟩
/-- Both answer the same identity, or none. -/
theorem identBoth (N : Int) : ∃ (r' c' : Int) (n' : Nat) (F : List UInt8) (err : Int), F.length = n' ∧ (∀ W, Calls Try.prog 26 #[.int .i64 N] W (AnyE r' c' n' F err W)) ∧ (∀ W, Calls Try.prog 17 #[.int .i64 N] W (AnyE r' c' n' F err W)) := by
  by_cases hp : wi N = true
  · obtain ⟨h1, h2⟩ := wi_true.1 hp
    obtain ⟨n, rfl⟩ := Int.eq_ofNat_of_zero_le (show 0 ≤ N by omega)
    refine ⟨n, n, n * n, Lin.oneL n, 0, tabN_length _ _ _, fun W => ?_, fun W => ?_⟩
    · refine (matIdentity n (by omega) (by omega) W).mono ?_
      rintro e w' ⟨A, k, he, _, ho, hb⟩
      exact ⟨A, k, he, ho, hb⟩
    · refine (refIdentity4 n (by omega) (by omega) W).mono ?_
      rintro e w' ⟨A, k, he, _, ho, hb⟩
      exact ⟨A, k, he, ho, hb⟩
  · have hp' := Bool.eq_false_iff.2 hp
    refine ⟨0, 0, 0, [], 2, rfl, fun W => ?_, fun W => ?_⟩
    · refine (matIdentityNo N hp' W).mono ?_
      rintro e w' ⟨he, hb⟩
      exact ⟨none, 0, he, World.ownsRow_nil _ _ _ _, hb⟩
    · refine (refIdentityNo N hp' W).mono ?_
      rintro e w' ⟨he, hb⟩
      exact ⟨none, 0, he, World.ownsRow_nil _ _ _ _, hb⟩
theorem ChP.one (w : World) (M : Array Value) : ChP w [(w.heap.size, M)] [] (w.alloc (.cells M 24)) := by
  refine ⟨fun x hx => ?_, fun r hr => (by cases hr), (Below.refl _ _).alloc (Nat.le_refl _) _⟩
  rw [List.mem_singleton] at hx
  subst hx
  exact Blk.new _ _ _
set_option maxHeartbeats 1000000 in
theorem lawLooksNo (r c : Int) (A : Option Addr) (n k : Nat) (Ar : Option Addr) (m kr : Nat) (N : Int) (w : World) (hn : n ≤ maxLen) (hm : m ≤ maxLen) (hno : 150 < n ∨ 300 < m) :
    Calls Try.prog 7 #[.agg (mv r c A n k), .slice Ar m kr, .int .i64 N] w fun e w' => e = .returned (.bool true) ∧ Below w.heap.size w w' := by
  have HS := Lib.hid (fun W => lawStands W)
  have HC := Lib.hid (ChP.one w (mv r c A n k))
  have HF := Lib.hid fun W => lawFew4 r c A n k hn W
  unfold maxLen at hm
  unfold mv at HC HF ⊢
  by_cases hfew : n ≤ 150
  · rw [decide_eq_true hfew] at HF
    have hm3 : 300 < m := by omega
    go_enter Try.func7, Try.ntmps7
    go_wp2_with fail
    refine (HF.out _).mono ?_
    rintro e w2 ⟨rfl, hb2⟩
    go_wp2_with fail
    refine (HS.out _).mono ?_
    rintro e w3 ⟨rfl, hb3⟩
    go_wp2
    go_ret
    exact ⟨rfl, (HC.out.below.via hb2).via hb3⟩
  · rw [decide_eq_false hfew] at HF
    go_enter Try.func7, Try.ntmps7
    go_wp2_with fail
    refine (HF.out _).mono ?_
    rintro e w2 ⟨rfl, hb2⟩
    go_wp2_with fail
    refine (HS.out _).mono ?_
    rintro e w3 ⟨rfl, hb3⟩
    go_wp2
    go_ret
    exact ⟨rfl, (HC.out.below.via hb2).via hb3⟩
set_option maxHeartbeats 4000000 in
theorem lawLooks (r c : Int) (A : Option Addr) (n k : Nat) (bs : List UInt8) (Ar : Option Addr) (m kr : Nat) (xs : List Int) (N : Int) (w : World) (h1 : Rd w w.heap.size A (bs.map bv)) (h2 : Rd w w.heap.size Ar (xs.map (Value.int .i64))) (hl1 : bs.length = n) (hl2 : xs.length = m) (hk : n ≤ k) (hkm : k ≤ maxLen) (hm : m ≤ maxLen) :
    Calls Try.prog 7 #[.agg (mv r c A n k), .slice Ar m kr, .int .i64 N] w fun e w' => e = .returned (.bool true) ∧ Below w.heap.size w w' := by
  by_cases hno : 150 < n ∨ 300 < m
  · exact lawLooksNo r c A n k Ar m kr N w (Nat.le_trans hk hkm) hm hno
  have hn150 : n ≤ 150 := by omega
  have hm300 : m ≤ 300 := by omega
  clear hno
  have HS := Lib.hid (fun W => lawStands W)
  have HC := Lib.hid (ChP.one w (mv r c A n k))
  have HF := Lib.hid fun W => lawFew4 r c A n k (Nat.le_trans hk hkm) W
  rw [decide_eq_true hn150] at HF
  obtain ⟨rp, cp, np, P, ep, hpl, hPA, hPB⟩ := pickBoth r c A n k bs Ar m kr xs hl1 hl2 hk (by omega) hm300
  obtain ⟨ri, ci, ni, I, ei, hil, hIA, hIB⟩ := identBoth N
  have HPA := Lib.hid fun W (hb : Below w.heap.size w W) => hPA W ((h1.below hb).more hb.size) ((h2.below hb).more hb.size)
  have HPB := Lib.hid fun W (hb : Below w.heap.size w W) => hPB W ((h1.below hb).more hb.size) ((h2.below hb).more hb.size)
  have HIA := Lib.hid hIA
  have HIB := Lib.hid hIB
  have HPL := Lib.hid hpl
  have HIL := Lib.hid hil
  have HR1 := Lib.hid fun W => matRight r c A n k (by omega) W
  have HR2 := Lib.hid fun W => refRight4 r c A n k W
  have HAT := Lib.hid fun i j W (hb : Below w.heap.size w W) => matAt r c A n k bs i j W w.heap.size hb.size (h1.below hb) hl1 hk (by omega)
  have HAR := Lib.hid fun i j W (hb : Below w.heap.size w W) => refAt4 r c A n k bs i j W w.heap.size hb.size (h1.below hb) hl1 hk
  have HL2 := Lib.hid hl2
  have HXD := Lib.hid h2
  generalize mr r c n = b at *
  clear hPA hPB hIA hIB hpl hil h1 h2 hl1 hl2
  unfold AnyE at HPA HPB HIA HIB
  unfold mv at HC HF HPA HPB HIA HIB HR1 HR2 HAT HAR ⊢
  go_enter Try.func7, Try.ntmps7
  go_wp2_with fail
  refine (HF.out _).mono ?_
  rintro e w2 ⟨rfl, hb2⟩
  have HC2 := Lib.hid (HC.out.via hb2)
  clear hb2 HC HF
  obtain ⟨m0, m1, m2⟩ := HC2.out.cells (List.Mem.head _)
  go_wp2_with fail
  refine (HPA.out _ HC2.out.below).mono ?_
  rintro e w3 ⟨Aa, ka, rfl, ho, hb⟩
  have HC3 := Lib.hid ((HC2.out.via hb).push HC2.out.below.size rp cp ho)
  clear ho hb m0 m1 m2 HC2 HPA
  go_upto_region 4 with fail
  generalize w3.alloc _ = v3 at *
  generalize w3.heap.size = g3 at *
  obtain ⟨m0, m1, m2⟩ := HC3.out.cells (List.Mem.tail _ (List.Mem.head _))
  go_wp2_with fail
  refine (HPB.out _ HC3.out.below).mono ?_
  rintro e w4 ⟨Ab, kb, rfl, ho, hb⟩
  have HC4' := Lib.hid ((HC3.out.via hb).push HC3.out.below.size rp cp ho)
  clear ho hb m0 m1 m2 HC3 HPB
  go_upto_region 5 with fail
  generalize w4.alloc _ = v4 at *
  generalize w4.heap.size = g4 at *
  have HC4 : Hid (ChP w [(g4, #[.int .i64 rp, .int .i64 cp, .slice Ab np kb]), (g3, #[.int .i64 rp, .int .i64 cp, .slice Aa np ka]), (w.heap.size, #[.int .i64 r, .int .i64 c, .slice A n k])] [⟨Ab, np, kb, P⟩, ⟨Aa, np, ka, P⟩] v4.drew) := Lib.hid (HC4'.out.via (below_drewN (Below.refl _ _) 1))
  have HSA := Lib.hid (same_own rp cp (HC4.out.own _ (List.Mem.tail _ (List.Mem.head _))) (HC4.out.own _ (List.Mem.head _)) rfl HPL.out)
  clear HC4'
  refine wp_region_held_drew (S := (fun wQq => ChP w [(g4, #[.int .i64 rp, .int .i64 cp, .slice Ab np kb]), (g3, #[.int .i64 rp, .int .i64 cp, .slice Aa np ka]), (w.heap.size, #[.int .i64 r, .int .i64 c, .slice A n k])] [⟨Ab, np, kb, P⟩, ⟨Aa, np, ka, P⟩] wQq)) (by kernel_rfl) (HC4.out) (fun _ => ?_)
  refine wpAnyH_take (i := 0) (v := ?_) rfl (by kernel_rfl) (by kernel_rfl) (by kernel_rfl) (fun _ _ _ h => h) (Or.inl ⟨by rfl, ?_⟩) (HC4.out) ?_
  rotate_left
  · intro wS hSw
    have hcv := (hSw.cells (List.Mem.tail _ (List.Mem.head _))).1
    have hcv1 := (hSw.cells (List.Mem.tail _ (List.Mem.head _))).2.1
    have hcv2 := (hSw.cells (List.Mem.tail _ (List.Mem.head _))).2.2
    go_simp
    try with_reducible rfl
  try simp only [List.getElem_toArray, List.getElem_cons_zero, List.getElem_cons_succ, Act.put, List.setIfInBounds_toArray, List.set_cons_zero, List.set_cons_succ]
  refine wpAnyH_take (i := 1) (v := ?_) rfl (by kernel_rfl) (by kernel_rfl) (by kernel_rfl) (fun _ _ _ h => h) (Or.inl ⟨by rfl, ?_⟩) (HC4.out) ?_
  rotate_left
  · intro wS hSw
    have hcv := (hSw.cells (List.Mem.head _)).1
    have hcv1 := (hSw.cells (List.Mem.head _)).2.1
    have hcv2 := (hSw.cells (List.Mem.head _)).2.2
    go_simp
    try with_reducible rfl
  try simp only [List.getElem_toArray, List.getElem_cons_zero, List.getElem_cons_succ, Act.put, List.setIfInBounds_toArray, List.set_cons_zero, List.set_cons_succ]
  refine wpAnyH_ready (rs := [2]) (by kernel_rfl) (by simp) ?_
  refine AllReadyH.cons rfl (fun K hK => ?_) AllReadyH.nil
  go_simp
  refine HSA.out.mono ?_
  rintro e v5 ⟨rfl, hb⟩
  have HC5 := Lib.hid (HC4.out.via hb)
  clear hb
  refine hK.out _ _ HC5.out (fun _ => ?_)
  clear hK K
  try simp only [List.getElem_toArray, List.getElem_cons_zero, List.getElem_cons_succ, Act.put, List.setIfInBounds_toArray, List.set_cons_zero, List.set_cons_succ]
  refine wpAnyH_take (i := 3) (v := ?_) rfl (by kernel_rfl) (by kernel_rfl) (by kernel_rfl) (fun _ _ _ h => h) (Or.inl ⟨by rfl, ?_⟩) HC5.out ?_
  rotate_left
  · intro wS hSw
    go_simp
    try with_reducible rfl
  try simp only [List.getElem_toArray, List.getElem_cons_zero, List.getElem_cons_succ, Act.put, List.setIfInBounds_toArray, List.set_cons_zero, List.set_cons_succ]
  refine wpAnyH_take (i := 4) (v := ?_) rfl (by kernel_rfl) (by kernel_rfl) (by kernel_rfl) (fun _ _ _ h => h) (Or.inl ⟨by rfl, ?_⟩) HC5.out ?_
  rotate_left
  · intro wS hSw
    go_simp
    try with_reducible rfl
  try simp only [List.getElem_toArray, List.getElem_cons_zero, List.getElem_cons_succ, Act.put, List.setIfInBounds_toArray, List.set_cons_zero, List.set_cons_succ]
  refine wpAnyH_take (i := 5) (v := ?_) rfl (by kernel_rfl) (by kernel_rfl) (by kernel_rfl) (fun _ _ _ h => h) (Or.inl ⟨by rfl, ?_⟩) HC5.out ?_
  rotate_left
  · intro wS hSw
    go_simp
    try with_reducible rfl
  try simp only [List.getElem_toArray, List.getElem_cons_zero, List.getElem_cons_succ, Act.put, List.setIfInBounds_toArray, List.set_cons_zero, List.set_cons_succ]
  refine wpAnyH_take (i := 6) (v := ?_) rfl (by kernel_rfl) (by kernel_rfl) (by kernel_rfl) (fun _ _ _ h => h) (Or.inl ⟨by rfl, ?_⟩) HC5.out ?_
  rotate_left
  · intro wS hSw
    go_simp
    try with_reducible rfl
  try simp only [List.getElem_toArray, List.getElem_cons_zero, List.getElem_cons_succ, Act.put, List.setIfInBounds_toArray, List.set_cons_zero, List.set_cons_succ]
  refine wpAnyH_take (i := 7) (v := ?_) rfl (by kernel_rfl) (by kernel_rfl) (by kernel_rfl) (fun _ _ _ h => h) (Or.inl ⟨by rfl, ?_⟩) HC5.out ?_
  rotate_left
  · intro wS hSw
    go_simp
    try with_reducible rfl
  try simp only [List.getElem_toArray, List.getElem_cons_zero, List.getElem_cons_succ, Act.put, List.setIfInBounds_toArray, List.set_cons_zero, List.set_cons_succ]
  refine wpAnyH_take (i := 8) (v := ?_) rfl (by kernel_rfl) (by kernel_rfl) (by kernel_rfl) (fun _ _ _ h => h) (Or.inl ⟨by rfl, ?_⟩) HC5.out ?_
  rotate_left
  · intro wS hSw
    go_simp
    try with_reducible rfl
  try simp only [List.getElem_toArray, List.getElem_cons_zero, List.getElem_cons_succ, Act.put, List.setIfInBounds_toArray, List.set_cons_zero, List.set_cons_succ]
  refine wpAnyH_take (i := 9) (v := ?_) rfl (by kernel_rfl) (by kernel_rfl) (by kernel_rfl) (fun _ _ _ h => h) (Or.inl ⟨by rfl, ?_⟩) HC5.out ?_
  rotate_left
  · intro wS hSw
    go_simp
    try with_reducible rfl
  try simp only [List.getElem_toArray, List.getElem_cons_zero, List.getElem_cons_succ, Act.put, List.setIfInBounds_toArray, List.set_cons_zero, List.set_cons_succ]
  refine wpAnyH_take (i := 10) (v := ?_) rfl (by kernel_rfl) (by kernel_rfl) (by kernel_rfl) (fun _ _ _ h => h) (Or.inl ⟨by rfl, ?_⟩) HC5.out ?_
  rotate_left
  · intro wS hSw
    have hcv := (hSw.cells (List.Mem.tail _ (List.Mem.tail _ (List.Mem.head _)))).1
    have hcv1 := (hSw.cells (List.Mem.tail _ (List.Mem.tail _ (List.Mem.head _)))).2.1
    have hcv2 := (hSw.cells (List.Mem.tail _ (List.Mem.tail _ (List.Mem.head _)))).2.2
    go_simp
    try with_reducible rfl
  try simp only [List.getElem_toArray, List.getElem_cons_zero, List.getElem_cons_succ, Act.put, List.setIfInBounds_toArray, List.set_cons_zero, List.set_cons_succ]
  refine wpAnyH_take (i := 12) (v := ?_) rfl (by kernel_rfl) (by kernel_rfl) (by kernel_rfl) (fun _ _ _ h => h) (Or.inl ⟨by rfl, ?_⟩) HC5.out ?_
  rotate_left
  · intro wS hSw
    have hcv := (hSw.cells (List.Mem.tail _ (List.Mem.tail _ (List.Mem.head _)))).1
    have hcv1 := (hSw.cells (List.Mem.tail _ (List.Mem.tail _ (List.Mem.head _)))).2.1
    have hcv2 := (hSw.cells (List.Mem.tail _ (List.Mem.tail _ (List.Mem.head _)))).2.2
    go_simp
    try with_reducible rfl
  try simp only [List.getElem_toArray, List.getElem_cons_zero, List.getElem_cons_succ, Act.put, List.setIfInBounds_toArray, List.set_cons_zero, List.set_cons_succ]
  refine wpAnyH_ready (rs := [11]) (by kernel_rfl) (by simp) ?_
  refine AllReadyH.cons rfl (fun K hK => ?_) AllReadyH.nil
  go_simp
  refine (HR1.out _).mono ?_
  rintro e v6 ⟨rfl, hb⟩
  have HC6 := Lib.hid (HC5.out.via hb)
  clear hb
  refine hK.out _ _ HC6.out (fun _ => ?_)
  clear hK K
  try simp only [List.getElem_toArray, List.getElem_cons_zero, List.getElem_cons_succ, Act.put, List.setIfInBounds_toArray, List.set_cons_zero, List.set_cons_succ]
  refine wpAnyH_ready (rs := [13]) (by kernel_rfl) (by simp) ?_
  refine AllReadyH.cons rfl (fun K hK => ?_) AllReadyH.nil
  go_simp
  refine (HR2.out _).mono ?_
  rintro e v7 ⟨rfl, hb⟩
  have HC7 := Lib.hid (HC6.out.via hb)
  clear hb
  refine hK.out _ _ HC7.out (fun _ => ?_)
  clear hK K
  try simp only [List.getElem_toArray, List.getElem_cons_zero, List.getElem_cons_succ, Act.put, List.setIfInBounds_toArray, List.set_cons_zero, List.set_cons_succ]
  refine wpAnyH_take (i := 14) (v := ?_) rfl (by kernel_rfl) (by kernel_rfl) (by kernel_rfl) (fun _ _ _ h => h) (Or.inl ⟨by rfl, ?_⟩) HC7.out ?_
  rotate_left
  · intro wS hSw
    go_simp
    try with_reducible rfl
  try simp only [List.getElem_toArray, List.getElem_cons_zero, List.getElem_cons_succ, Act.put, List.setIfInBounds_toArray, List.set_cons_zero, List.set_cons_succ]
  refine wpAnyH_take (i := 15) (v := ?_) rfl (by kernel_rfl) (by kernel_rfl) (by kernel_rfl) (fun _ _ _ h => h) (Or.inl ⟨by rfl, ?_⟩) HC7.out ?_
  rotate_left
  · intro wS hSw
    go_simp
    try with_reducible rfl
  try simp only [List.getElem_toArray, List.getElem_cons_zero, List.getElem_cons_succ, Act.put, List.setIfInBounds_toArray, List.set_cons_zero, List.set_cons_succ]
  refine wpAnyH_done (by kernel_rfl) ?_ _
  clear HC4 HC5 HC6 HSA HR1 HR2
  go_wp2
  go_loopw [11] (fun i wr => ∃ p : Nat, i = .int .i64 p ∧ p ≤ m ∧ p ≤ 20 ∧ Hid (ChP w [(g4, #[.int .i64 rp, .int .i64 cp, .slice Ab np kb]), (g3, #[.int .i64 rp, .int .i64 cp, .slice Aa np ka]), (w.heap.size, #[.int .i64 r, .int .i64 c, .slice A n k])] [⟨Ab, np, kb, P⟩, ⟨Aa, np, ka, P⟩] wr)) (fun i _ => 20 - (intOf i).toNat)
  case atStart => exact ⟨0, rfl, Nat.zero_le _, Nat.zero_le _, HC7⟩
  case round =>
    clear HC7
    obtain ⟨p, rfl, hp, hp2, hC⟩ := hrel
    by_cases hlt : p < m ∧ p < 20
    · obtain ⟨hlt1, hlt2⟩ := hlt
      have hpl : p < xs.length := by rw [HL2.out]; exact hlt1
      obtain ⟨ad, rfl, hab, hcx0⟩ := rd_i64 HXD.out hpl
      have labw : (ad.add p).block < w.heap.size := by rw [addr_add_block]; exact hab
      generalize xs[p] = x at *
      have HX1 := Lib.hid fun W hb => HAT.out x N W hb
      have HX2 := Lib.hid fun W hb => HAR.out x N W hb
      have HX3 := Lib.hid fun W hb => HAT.out N x W hb
      have HX4 := Lib.hid fun W hb => HAR.out N x W hb
      generalize atN r c n bs x N = y at *
      generalize atN r c n bs N x = z at *
      have HC0 : Hid (ChP w [(g4, #[.int .i64 rp, .int .i64 cp, .slice Ab np kb]), (g3, #[.int .i64 rp, .int .i64 cp, .slice Aa np ka]), (w.heap.size, #[.int .i64 r, .int .i64 c, .slice A n k])] [⟨Ab, np, kb, P⟩, ⟨Aa, np, ka, P⟩] wr.drew) := Lib.hid (hC.out.via (below_drewN (Below.refl _ _) 1))
      clear hC hpl hab
      go_wp2
      refine wp_region_held_drew (S := (fun wQq => ChP w [(g4, #[.int .i64 rp, .int .i64 cp, .slice Ab np kb]), (g3, #[.int .i64 rp, .int .i64 cp, .slice Aa np ka]), (w.heap.size, #[.int .i64 r, .int .i64 c, .slice A n k])] [⟨Ab, np, kb, P⟩, ⟨Aa, np, ka, P⟩] wQq)) (by kernel_rfl) (HC0.out) (fun _ => ?_)
      refine wpAnyH_take (i := 1) (v := ?_) rfl (by kernel_rfl) (by kernel_rfl) (by kernel_rfl) (fun _ _ _ h => h) (Or.inl ⟨by rfl, ?_⟩) (HC0.out) ?_
      rotate_left
      · intro wS hSw
        go_simp
        try with_reducible rfl
      try simp only [List.getElem_toArray, List.getElem_cons_zero, List.getElem_cons_succ, Act.put, List.setIfInBounds_toArray, List.set_cons_zero, List.set_cons_succ]
      refine wpAnyH_take (i := 2) (v := ?_) rfl (by kernel_rfl) (by kernel_rfl) (by kernel_rfl) (fun _ _ _ h => h) (Or.inl ⟨by rfl, ?_⟩) (HC0.out) ?_
      rotate_left
      · intro wS hSw
        go_simp
        try with_reducible rfl
      try simp only [List.getElem_toArray, List.getElem_cons_zero, List.getElem_cons_succ, Act.put, List.setIfInBounds_toArray, List.set_cons_zero, List.set_cons_succ]
      refine wpAnyH_take (i := 3) (v := ?_) rfl (by kernel_rfl) (by kernel_rfl) (by kernel_rfl) (fun _ _ _ h => h) (Or.inl ⟨by rfl, ?_⟩) (HC0.out) ?_
      rotate_left
      · intro wS hSw
        go_simp
        try with_reducible rfl
      try simp only [List.getElem_toArray, List.getElem_cons_zero, List.getElem_cons_succ, Act.put, List.setIfInBounds_toArray, List.set_cons_zero, List.set_cons_succ]
      refine wpAnyH_take (i := 5) (v := ?_) rfl (by kernel_rfl) (by kernel_rfl) (by kernel_rfl) (fun _ _ _ h => h) (Or.inl ⟨by rfl, ?_⟩) (HC0.out) ?_
      rotate_left
      · intro wS hSw
        go_simp
        try with_reducible rfl
      try simp only [List.getElem_toArray, List.getElem_cons_zero, List.getElem_cons_succ, Act.put, List.setIfInBounds_toArray, List.set_cons_zero, List.set_cons_succ]
      refine wpAnyH_take (i := 8) (v := ?_) rfl (by kernel_rfl) (by kernel_rfl) (by kernel_rfl) (fun _ _ _ h => h) (Or.inl ⟨by rfl, ?_⟩) (HC0.out) ?_
      rotate_left
      · intro wS hSw
        go_simp
        try with_reducible rfl
      try simp only [List.getElem_toArray, List.getElem_cons_zero, List.getElem_cons_succ, Act.put, List.setIfInBounds_toArray, List.set_cons_zero, List.set_cons_succ]
      refine wpAnyH_take (i := 9) (v := ?_) rfl (by kernel_rfl) (by kernel_rfl) (by kernel_rfl) (fun _ _ _ h => h) (Or.inl ⟨by rfl, ?_⟩) (HC0.out) ?_
      rotate_left
      · intro wS hSw
        go_simp
        try with_reducible rfl
      try simp only [List.getElem_toArray, List.getElem_cons_zero, List.getElem_cons_succ, Act.put, List.setIfInBounds_toArray, List.set_cons_zero, List.set_cons_succ]
      refine wpAnyH_take (i := 10) (v := ?_) rfl (by kernel_rfl) (by kernel_rfl) (by kernel_rfl) (fun _ _ _ h => h) (Or.inl ⟨by rfl, ?_⟩) (HC0.out) ?_
      rotate_left
      · intro wS hSw
        go_simp
        try with_reducible rfl
      try simp only [List.getElem_toArray, List.getElem_cons_zero, List.getElem_cons_succ, Act.put, List.setIfInBounds_toArray, List.set_cons_zero, List.set_cons_succ]
      refine wpAnyH_take (i := 12) (v := ?_) rfl (by kernel_rfl) (by kernel_rfl) (by kernel_rfl) (fun _ _ _ h => h) (Or.inl ⟨by rfl, ?_⟩) (HC0.out) ?_
      rotate_left
      · intro wS hSw
        go_simp
        try with_reducible rfl
      try simp only [List.getElem_toArray, List.getElem_cons_zero, List.getElem_cons_succ, Act.put, List.setIfInBounds_toArray, List.set_cons_zero, List.set_cons_succ]
      refine wpAnyH_take (i := 0) (v := ?_) rfl (by kernel_rfl) (by kernel_rfl) (by kernel_rfl) (fun _ _ _ h => h) (Or.inl ⟨by rfl, ?_⟩) (HC0.out) ?_
      rotate_left
      · intro wS hSw
        have hcv := (hSw.cells (List.Mem.tail _ (List.Mem.tail _ (List.Mem.head _)))).1
        have hcv1 := (hSw.cells (List.Mem.tail _ (List.Mem.tail _ (List.Mem.head _)))).2.1
        have hcv2 := (hSw.cells (List.Mem.tail _ (List.Mem.tail _ (List.Mem.head _)))).2.2
        go_simp
        try with_reducible rfl
      try simp only [List.getElem_toArray, List.getElem_cons_zero, List.getElem_cons_succ, Act.put, List.setIfInBounds_toArray, List.set_cons_zero, List.set_cons_succ]
      refine wpAnyH_take (i := 4) (v := ?_) rfl (by kernel_rfl) (by kernel_rfl) (by kernel_rfl) (fun _ _ _ h => h) (Or.inl ⟨by rfl, ?_⟩) (HC0.out) ?_
      rotate_left
      · intro wS hSw
        have hcv := (hSw.below.cell (p := ad.add p) (by exact labw)).trans hcx0
        go_simp
        try with_reducible rfl
      try simp only [List.getElem_toArray, List.getElem_cons_zero, List.getElem_cons_succ, Act.put, List.setIfInBounds_toArray, List.set_cons_zero, List.set_cons_succ]
      refine wpAnyH_take (i := 7) (v := ?_) rfl (by kernel_rfl) (by kernel_rfl) (by kernel_rfl) (fun _ _ _ h => h) (Or.inl ⟨by rfl, ?_⟩) (HC0.out) ?_
      rotate_left
      · intro wS hSw
        have hcv := (hSw.cells (List.Mem.tail _ (List.Mem.tail _ (List.Mem.head _)))).1
        have hcv1 := (hSw.cells (List.Mem.tail _ (List.Mem.tail _ (List.Mem.head _)))).2.1
        have hcv2 := (hSw.cells (List.Mem.tail _ (List.Mem.tail _ (List.Mem.head _)))).2.2
        go_simp
        try with_reducible rfl
      try simp only [List.getElem_toArray, List.getElem_cons_zero, List.getElem_cons_succ, Act.put, List.setIfInBounds_toArray, List.set_cons_zero, List.set_cons_succ]
      refine wpAnyH_take (i := 11) (v := ?_) rfl (by kernel_rfl) (by kernel_rfl) (by kernel_rfl) (fun _ _ _ h => h) (Or.inl ⟨by rfl, ?_⟩) (HC0.out) ?_
      rotate_left
      · intro wS hSw
        have hcv := (hSw.below.cell (p := ad.add p) (by exact labw)).trans hcx0
        go_simp
        try with_reducible rfl
      try simp only [List.getElem_toArray, List.getElem_cons_zero, List.getElem_cons_succ, Act.put, List.setIfInBounds_toArray, List.set_cons_zero, List.set_cons_succ]
      refine wpAnyH_ready (rs := [6]) (by kernel_rfl) (by simp) ?_
      refine AllReadyH.cons rfl (fun K hK => ?_) AllReadyH.nil
      go_simp
      refine (HX1.out _ HC0.out.below).mono ?_
      rintro e u1 ⟨rfl, hb⟩
      have HD1 := Lib.hid (HC0.out.via hb)
      clear hb
      refine hK.out _ _ HD1.out (fun _ => ?_)
      clear hK K
      try simp only [List.getElem_toArray, List.getElem_cons_zero, List.getElem_cons_succ, Act.put, List.setIfInBounds_toArray, List.set_cons_zero, List.set_cons_succ]
      refine wpAnyH_ready (rs := [13]) (by kernel_rfl) (by simp) ?_
      refine AllReadyH.cons rfl (fun K hK => ?_) AllReadyH.nil
      go_simp
      refine (HX2.out _ HD1.out.below).mono ?_
      rintro e u2 ⟨rfl, hb⟩
      have HD2 := Lib.hid (HD1.out.via hb)
      clear hb
      refine hK.out _ _ HD2.out (fun _ => ?_)
      clear hK K
      try simp only [List.getElem_toArray, List.getElem_cons_zero, List.getElem_cons_succ, Act.put, List.setIfInBounds_toArray, List.set_cons_zero, List.set_cons_succ]
      refine wpAnyH_take (i := 14) (v := ?_) rfl (by kernel_rfl) (by kernel_rfl) (by kernel_rfl) (fun _ _ _ h => h) (Or.inl ⟨by rfl, ?_⟩) HD2.out ?_
      rotate_left
      · intro wS hSw
        go_simp
        try with_reducible rfl
      try simp only [List.getElem_toArray, List.getElem_cons_zero, List.getElem_cons_succ, Act.put, List.setIfInBounds_toArray, List.set_cons_zero, List.set_cons_succ]
      refine wpAnyH_take (i := 15) (v := ?_) rfl (by kernel_rfl) (by kernel_rfl) (by kernel_rfl) (fun _ _ _ h => h) (Or.inl ⟨by rfl, ?_⟩) HD2.out ?_
      rotate_left
      · intro wS hSw
        go_simp
        try with_reducible rfl
      try simp only [List.getElem_toArray, List.getElem_cons_zero, List.getElem_cons_succ, Act.put, List.setIfInBounds_toArray, List.set_cons_zero, List.set_cons_succ]
      refine wpAnyH_take (i := 17) (v := ?_) rfl (by kernel_rfl) (by kernel_rfl) (by kernel_rfl) (fun _ _ _ h => h) (Or.inl ⟨by rfl, ?_⟩) HD2.out ?_
      rotate_left
      · intro wS hSw
        go_simp
        try with_reducible rfl
      try simp only [List.getElem_toArray, List.getElem_cons_zero, List.getElem_cons_succ, Act.put, List.setIfInBounds_toArray, List.set_cons_zero, List.set_cons_succ]
      refine wpAnyH_take (i := 18) (v := ?_) rfl (by kernel_rfl) (by kernel_rfl) (by kernel_rfl) (fun _ _ _ h => h) (Or.inl ⟨by rfl, ?_⟩) HD2.out ?_
      rotate_left
      · intro wS hSw
        go_simp
        try with_reducible rfl
      try simp only [List.getElem_toArray, List.getElem_cons_zero, List.getElem_cons_succ, Act.put, List.setIfInBounds_toArray, List.set_cons_zero, List.set_cons_succ]
      refine wpAnyH_take (i := 19) (v := ?_) rfl (by kernel_rfl) (by kernel_rfl) (by kernel_rfl) (fun _ _ _ h => h) (Or.inl ⟨by rfl, ?_⟩) HD2.out ?_
      rotate_left
      · intro wS hSw
        go_simp
        try with_reducible rfl
      try simp only [List.getElem_toArray, List.getElem_cons_zero, List.getElem_cons_succ, Act.put, List.setIfInBounds_toArray, List.set_cons_zero, List.set_cons_succ]
      refine wpAnyH_take (i := 20) (v := ?_) rfl (by kernel_rfl) (by kernel_rfl) (by kernel_rfl) (fun _ _ _ h => h) (Or.inl ⟨by rfl, ?_⟩) HD2.out ?_
      rotate_left
      · intro wS hSw
        go_simp
        try with_reducible rfl
      try simp only [List.getElem_toArray, List.getElem_cons_zero, List.getElem_cons_succ, Act.put, List.setIfInBounds_toArray, List.set_cons_zero, List.set_cons_succ]
      refine wpAnyH_take (i := 24) (v := ?_) rfl (by kernel_rfl) (by kernel_rfl) (by kernel_rfl) (fun _ _ _ h => h) (Or.inl ⟨by rfl, ?_⟩) HD2.out ?_
      rotate_left
      · intro wS hSw
        go_simp
        try with_reducible rfl
      try simp only [List.getElem_toArray, List.getElem_cons_zero, List.getElem_cons_succ, Act.put, List.setIfInBounds_toArray, List.set_cons_zero, List.set_cons_succ]
      refine wpAnyH_take (i := 25) (v := ?_) rfl (by kernel_rfl) (by kernel_rfl) (by kernel_rfl) (fun _ _ _ h => h) (Or.inl ⟨by rfl, ?_⟩) HD2.out ?_
      rotate_left
      · intro wS hSw
        go_simp
        try with_reducible rfl
      try simp only [List.getElem_toArray, List.getElem_cons_zero, List.getElem_cons_succ, Act.put, List.setIfInBounds_toArray, List.set_cons_zero, List.set_cons_succ]
      refine wpAnyH_take (i := 26) (v := ?_) rfl (by kernel_rfl) (by kernel_rfl) (by kernel_rfl) (fun _ _ _ h => h) (Or.inl ⟨by rfl, ?_⟩) HD2.out ?_
      rotate_left
      · intro wS hSw
        go_simp
        try with_reducible rfl
      try simp only [List.getElem_toArray, List.getElem_cons_zero, List.getElem_cons_succ, Act.put, List.setIfInBounds_toArray, List.set_cons_zero, List.set_cons_succ]
      refine wpAnyH_take (i := 27) (v := ?_) rfl (by kernel_rfl) (by kernel_rfl) (by kernel_rfl) (fun _ _ _ h => h) (Or.inl ⟨by rfl, ?_⟩) HD2.out ?_
      rotate_left
      · intro wS hSw
        go_simp
        try with_reducible rfl
      try simp only [List.getElem_toArray, List.getElem_cons_zero, List.getElem_cons_succ, Act.put, List.setIfInBounds_toArray, List.set_cons_zero, List.set_cons_succ]
      refine wpAnyH_take (i := 16) (v := ?_) rfl (by kernel_rfl) (by kernel_rfl) (by kernel_rfl) (fun _ _ _ h => h) (Or.inl ⟨by rfl, ?_⟩) HD2.out ?_
      rotate_left
      · intro wS hSw
        have hcv := (hSw.cells (List.Mem.tail _ (List.Mem.tail _ (List.Mem.head _)))).1
        have hcv1 := (hSw.cells (List.Mem.tail _ (List.Mem.tail _ (List.Mem.head _)))).2.1
        have hcv2 := (hSw.cells (List.Mem.tail _ (List.Mem.tail _ (List.Mem.head _)))).2.2
        go_simp
        try with_reducible rfl
      try simp only [List.getElem_toArray, List.getElem_cons_zero, List.getElem_cons_succ, Act.put, List.setIfInBounds_toArray, List.set_cons_zero, List.set_cons_succ]
      refine wpAnyH_take (i := 21) (v := ?_) rfl (by kernel_rfl) (by kernel_rfl) (by kernel_rfl) (fun _ _ _ h => h) (Or.inl ⟨by rfl, ?_⟩) HD2.out ?_
      rotate_left
      · intro wS hSw
        have hcv := (hSw.below.cell (p := ad.add p) (by exact labw)).trans hcx0
        go_simp
        try with_reducible rfl
      try simp only [List.getElem_toArray, List.getElem_cons_zero, List.getElem_cons_succ, Act.put, List.setIfInBounds_toArray, List.set_cons_zero, List.set_cons_succ]
      refine wpAnyH_take (i := 23) (v := ?_) rfl (by kernel_rfl) (by kernel_rfl) (by kernel_rfl) (fun _ _ _ h => h) (Or.inl ⟨by rfl, ?_⟩) HD2.out ?_
      rotate_left
      · intro wS hSw
        have hcv := (hSw.cells (List.Mem.tail _ (List.Mem.tail _ (List.Mem.head _)))).1
        have hcv1 := (hSw.cells (List.Mem.tail _ (List.Mem.tail _ (List.Mem.head _)))).2.1
        have hcv2 := (hSw.cells (List.Mem.tail _ (List.Mem.tail _ (List.Mem.head _)))).2.2
        go_simp
        try with_reducible rfl
      try simp only [List.getElem_toArray, List.getElem_cons_zero, List.getElem_cons_succ, Act.put, List.setIfInBounds_toArray, List.set_cons_zero, List.set_cons_succ]
      refine wpAnyH_take (i := 28) (v := ?_) rfl (by kernel_rfl) (by kernel_rfl) (by kernel_rfl) (fun _ _ _ h => h) (Or.inl ⟨by rfl, ?_⟩) HD2.out ?_
      rotate_left
      · intro wS hSw
        have hcv := (hSw.below.cell (p := ad.add p) (by exact labw)).trans hcx0
        go_simp
        try with_reducible rfl
      try simp only [List.getElem_toArray, List.getElem_cons_zero, List.getElem_cons_succ, Act.put, List.setIfInBounds_toArray, List.set_cons_zero, List.set_cons_succ]
      refine wpAnyH_ready (rs := [22]) (by kernel_rfl) (by simp) ?_
      refine AllReadyH.cons rfl (fun K hK => ?_) AllReadyH.nil
      go_simp
      refine (HX3.out _ HD2.out.below).mono ?_
      rintro e u3 ⟨rfl, hb⟩
      have HD3 := Lib.hid (HD2.out.via hb)
      clear hb
      refine hK.out _ _ HD3.out (fun _ => ?_)
      clear hK K
      try simp only [List.getElem_toArray, List.getElem_cons_zero, List.getElem_cons_succ, Act.put, List.setIfInBounds_toArray, List.set_cons_zero, List.set_cons_succ]
      refine wpAnyH_ready (rs := [29]) (by kernel_rfl) (by simp) ?_
      refine AllReadyH.cons rfl (fun K hK => ?_) AllReadyH.nil
      go_simp
      refine (HX4.out _ HD3.out.below).mono ?_
      rintro e u4 ⟨rfl, hb⟩
      have HD4 := Lib.hid (HD3.out.via hb)
      clear hb
      refine hK.out _ _ HD4.out (fun _ => ?_)
      clear hK K
      try simp only [List.getElem_toArray, List.getElem_cons_zero, List.getElem_cons_succ, Act.put, List.setIfInBounds_toArray, List.set_cons_zero, List.set_cons_succ]
      refine wpAnyH_take (i := 30) (v := ?_) rfl (by kernel_rfl) (by kernel_rfl) (by kernel_rfl) (fun _ _ _ h => h) (Or.inl ⟨by rfl, ?_⟩) HD4.out ?_
      rotate_left
      · intro wS hSw
        go_simp
        try with_reducible rfl
      try simp only [List.getElem_toArray, List.getElem_cons_zero, List.getElem_cons_succ, Act.put, List.setIfInBounds_toArray, List.set_cons_zero, List.set_cons_succ]
      refine wpAnyH_take (i := 31) (v := ?_) rfl (by kernel_rfl) (by kernel_rfl) (by kernel_rfl) (fun _ _ _ h => h) (Or.inl ⟨by rfl, ?_⟩) HD4.out ?_
      rotate_left
      · intro wS hSw
        go_simp
        try with_reducible rfl
      try simp only [List.getElem_toArray, List.getElem_cons_zero, List.getElem_cons_succ, Act.put, List.setIfInBounds_toArray, List.set_cons_zero, List.set_cons_succ]
      refine wpAnyH_done (by kernel_rfl) ?_ _
      go_wp2
      go_roundw
      case rel => exact ⟨p + 1, by go_num, hlt1, hlt2, HD4⟩
      case measure => simp [intOf]; omega
    · by_cases hlt1 : p < m
      · have hlt2 : p = 20 := by omega
        subst hlt2
        clear hlt
        by_cases hn1 : 40 < N
        · by_cases hn2 : N ≤ 255
          · clear HIA HIB
            go_wp2_with fail
            refine (HS.out _).mono ?_
            rintro e wz ⟨rfl, hz⟩
            go_wp2
            go_ret
            exact ⟨rfl, hC.out.below.via hz⟩
          · have hn3 : decide (N ≤ 255) = false := decide_eq_false hn2
            go_upto_region 14 with fail
            go_wp2_with fail
            refine (HIA.out _).mono ?_
            rintro e w8 ⟨Ac, kc, rfl, ho, hb⟩
            have HC8 := Lib.hid ((hC.out.via hb).push hC.out.below.size ri ci ho)
            clear ho hb
            go_upto_region 15 with fail
            generalize w8.alloc _ = v8 at *
            generalize w8.heap.size = g8 at *
            go_wp2_with fail
            refine (HIB.out _).mono ?_
            rintro e w9 ⟨Ad, kd, rfl, ho, hb⟩
            have HC9 := Lib.hid ((HC8.out.via hb).push HC8.out.below.size ri ci ho)
            clear ho hb HC8
            go_upto_region 16 with fail
            generalize w9.alloc _ = v9 at *
            generalize w9.heap.size = g9 at *
            obtain ⟨a0, a1, a2⟩ := HC9.out.cells (List.Mem.tail _ (List.Mem.head _))
            obtain ⟨b0, b1, b2⟩ := HC9.out.cells (List.Mem.head _)
            have HSB := Lib.hid (same_own ri ci (HC9.out.own _ (List.Mem.tail _ (List.Mem.head _))) (HC9.out.own _ (List.Mem.head _)) rfl HIL.out)
            go_wp2_with fail
            refine HSB.out.mono ?_
            rintro e w10 ⟨rfl, hb⟩
            have HC10 := Lib.hid (HC9.out.via hb)
            clear hb a0 a1 a2 b0 b1 b2
            go_wp2_with fail
            refine (HS.out _).mono ?_
            rintro e wz ⟨rfl, hz⟩
            go_wp2
            go_ret
            exact ⟨rfl, HC10.out.below.via hz⟩
        · have hn3 : decide (40 < N) = false := decide_eq_false hn1
          go_upto_region 14 with fail
          go_wp2_with fail
          refine (HIA.out _).mono ?_
          rintro e w8 ⟨Ac, kc, rfl, ho, hb⟩
          have HC8 := Lib.hid ((hC.out.via hb).push hC.out.below.size ri ci ho)
          clear ho hb
          go_upto_region 15 with fail
          generalize w8.alloc _ = v8 at *
          generalize w8.heap.size = g8 at *
          go_wp2_with fail
          refine (HIB.out _).mono ?_
          rintro e w9 ⟨Ad, kd, rfl, ho, hb⟩
          have HC9 := Lib.hid ((HC8.out.via hb).push HC8.out.below.size ri ci ho)
          clear ho hb HC8
          go_upto_region 16 with fail
          generalize w9.alloc _ = v9 at *
          generalize w9.heap.size = g9 at *
          obtain ⟨a0, a1, a2⟩ := HC9.out.cells (List.Mem.tail _ (List.Mem.head _))
          obtain ⟨b0, b1, b2⟩ := HC9.out.cells (List.Mem.head _)
          have HSB := Lib.hid (same_own ri ci (HC9.out.own _ (List.Mem.tail _ (List.Mem.head _))) (HC9.out.own _ (List.Mem.head _)) rfl HIL.out)
          go_wp2_with fail
          refine HSB.out.mono ?_
          rintro e w10 ⟨rfl, hb⟩
          have HC10 := Lib.hid (HC9.out.via hb)
          clear hb a0 a1 a2 b0 b1 b2
          go_wp2_with fail
          refine (HS.out _).mono ?_
          rintro e wz ⟨rfl, hz⟩
          go_wp2
          go_ret
          exact ⟨rfl, HC10.out.below.via hz⟩
      · have hlt2 : p = m := by omega
        subst hlt2
        clear hlt
        by_cases hn1 : 40 < N
        · by_cases hn2 : N ≤ 255
          · clear HIA HIB
            go_wp2_with fail
            refine (HS.out _).mono ?_
            rintro e wz ⟨rfl, hz⟩
            go_wp2
            go_ret
            exact ⟨rfl, hC.out.below.via hz⟩
          · have hn3 : decide (N ≤ 255) = false := decide_eq_false hn2
            go_upto_region 14 with fail
            go_wp2_with fail
            refine (HIA.out _).mono ?_
            rintro e w8 ⟨Ac, kc, rfl, ho, hb⟩
            have HC8 := Lib.hid ((hC.out.via hb).push hC.out.below.size ri ci ho)
            clear ho hb
            go_upto_region 15 with fail
            generalize w8.alloc _ = v8 at *
            generalize w8.heap.size = g8 at *
            go_wp2_with fail
            refine (HIB.out _).mono ?_
            rintro e w9 ⟨Ad, kd, rfl, ho, hb⟩
            have HC9 := Lib.hid ((HC8.out.via hb).push HC8.out.below.size ri ci ho)
            clear ho hb HC8
            go_upto_region 16 with fail
            generalize w9.alloc _ = v9 at *
            generalize w9.heap.size = g9 at *
            obtain ⟨a0, a1, a2⟩ := HC9.out.cells (List.Mem.tail _ (List.Mem.head _))
            obtain ⟨b0, b1, b2⟩ := HC9.out.cells (List.Mem.head _)
            have HSB := Lib.hid (same_own ri ci (HC9.out.own _ (List.Mem.tail _ (List.Mem.head _))) (HC9.out.own _ (List.Mem.head _)) rfl HIL.out)
            go_wp2_with fail
            refine HSB.out.mono ?_
            rintro e w10 ⟨rfl, hb⟩
            have HC10 := Lib.hid (HC9.out.via hb)
            clear hb a0 a1 a2 b0 b1 b2
            go_wp2_with fail
            refine (HS.out _).mono ?_
            rintro e wz ⟨rfl, hz⟩
            go_wp2
            go_ret
            exact ⟨rfl, HC10.out.below.via hz⟩
        · have hn3 : decide (40 < N) = false := decide_eq_false hn1
          go_upto_region 14 with fail
          go_wp2_with fail
          refine (HIA.out _).mono ?_
          rintro e w8 ⟨Ac, kc, rfl, ho, hb⟩
          have HC8 := Lib.hid ((hC.out.via hb).push hC.out.below.size ri ci ho)
          clear ho hb
          go_upto_region 15 with fail
          generalize w8.alloc _ = v8 at *
          generalize w8.heap.size = g8 at *
          go_wp2_with fail
          refine (HIB.out _).mono ?_
          rintro e w9 ⟨Ad, kd, rfl, ho, hb⟩
          have HC9 := Lib.hid ((HC8.out.via hb).push HC8.out.below.size ri ci ho)
          clear ho hb HC8
          go_upto_region 16 with fail
          generalize w9.alloc _ = v9 at *
          generalize w9.heap.size = g9 at *
          obtain ⟨a0, a1, a2⟩ := HC9.out.cells (List.Mem.tail _ (List.Mem.head _))
          obtain ⟨b0, b1, b2⟩ := HC9.out.cells (List.Mem.head _)
          have HSB := Lib.hid (same_own ri ci (HC9.out.own _ (List.Mem.tail _ (List.Mem.head _))) (HC9.out.own _ (List.Mem.head _)) rfl HIL.out)
          go_wp2_with fail
          refine HSB.out.mono ?_
          rintro e w10 ⟨rfl, hb⟩
          have HC10 := Lib.hid (HC9.out.via hb)
          clear hb a0 a1 a2 b0 b1 b2
          go_wp2_with fail
          refine (HS.out _).mono ?_
          rintro e wz ⟨rfl, hz⟩
          go_wp2
          go_ret
          exact ⟨rfl, HC10.out.below.via hz⟩
end Cib
