/- A shard's sector is put: contracts. -/
import Derived.Test.YtpkpdamdclafjaaShdG
import Derived.Test.YtpkpdamdclafjaaRowsK
set_option linter.unusedVariables false
set_option linter.unusedSimpArgs false
set_option maxRecDepth 20000
namespace Cib
open Go Go.RowKit Go.Proofs

/-- A shard's cells. -/
def shC (s : Shd.Sh) : Array Value := (([.int .u8 (s.kind : Int), .int .u8 (s.idx : Int), .int .u16 (s.place : Int), .int .u64 (s.gen : Int), .int .u16 (s.size : Int)] : List Value) ++ s.body.map bv).toArray
section
variable (s : Shd.Sh)
theorem shC0 : (shC s)[0]? = some (.int .u8 (s.kind : Int)) := by simp [shC]
theorem shC1 : (shC s)[1]? = some (.int .u8 (s.idx : Int)) := by simp [shC]
theorem shC2 : (shC s)[2]? = some (.int .u16 (s.place : Int)) := by simp [shC]
theorem shC3 : (shC s)[3]? = some (.int .u64 (s.gen : Int)) := by simp [shC]
theorem shC4 : (shC s)[4]? = some (.int .u16 (s.size : Int)) := by simp [shC]
theorem shC5 {j : Nat} (h : j < s.body.length) : (shC s)[5 + j]? = some (bv s.body[j]) := by
  unfold shC
  rw [List.getElem?_toArray, List.getElem?_append_right (by simp)]
  simp [h]
theorem shCsize (h : s.ok) : (shC s).size = 49 := by simp [shC, h.2.2.2.2.2]
end
theorem shdHead (s : Shd.Sh) (hs : s.ok) (w : World) :
    Calls Try.prog 19 #[.agg (shC s)] w fun e w' => e = .returned (.slice (some ⟨w.heap.size + 1, 0, none⟩) 6 6) ∧
      w' = (w.alloc (.cells (shC s) 26)).alloc (.cells #[.int .i64 1, .int .u64 (s.kind : Int), .int .i64 1, .int .u64 (s.idx : Int), .int .i64 2, .int .u64 (s.place : Int), .int .i64 8, .int .u64 (s.gen : Int), .int .i64 2, .int .u64 (s.size : Int), .int .i64 2, .int .u64 0] 58) := by
  have h0 := shC0 s
  have h1 := shC1 s
  have h2 := shC2 s
  have h3 := shC3 s
  have h4 := shC4 s
  obtain ⟨b0, b1, b2, b3, b4, _⟩ := hs
  generalize shC s = C at *
  go_enter Try.func19, Try.ntmps19
  go_wp2
  go_ret
  exact ⟨rfl, rfl⟩
theorem shdInfo : (Try.prog.info? 26).map (·.size) = some 49 := by kernel_rfl
/-- New bytes, and an error. -/
def OutB (xs : List UInt8) (er : Nat) (w : World) (e : Ending) (w' : World) : Prop :=
  ∃ A n c, e = .returned (.tuple #[.slice A n c, .int .i64 (er : Int)]) ∧ xs.length = n ∧ w'.ownsRow w.heap.size 5 1 (.slice A n c) n (xs.map bv) ∧ Below w.heap.size w w'
/-- The cells of the numbers. -/
def hrow (p : Nat × Nat) : List Value := [.int .i64 (p.1 : Int), .int .u64 (p.2 : Int)]
theorem shdHead2 (s : Shd.Sh) (hs : s.ok) (w : World) :
    Calls Try.prog 19 #[.agg (shC s)] w fun e w' => ∃ G, e = .returned (.slice (some ⟨G, 0, none⟩) 6 6) ∧ Rd w' w'.heap.size (some ⟨G, 0, none⟩) ((Shd.headL s).map hrow).flatten ∧ Below w.heap.size w w' := by
  refine (shdHead s hs w).mono ?_
  rintro e w' ⟨rfl, rfl⟩
  refine ⟨_, rfl, ?_, ((Below.refl _ _).alloc (Nat.le_refl _) _).alloc (by simp) _⟩
  have h := Rd.new (w.alloc (.cells (shC s) 26)) #[Value.int .i64 1, Value.int .u64 (s.kind : Int), Value.int .i64 1, Value.int .u64 (s.idx : Int), Value.int .i64 2, Value.int .u64 (s.place : Int), Value.int .i64 8, Value.int .u64 (s.gen : Int), Value.int .i64 2, Value.int .u64 (s.size : Int), Value.int .i64 2, Value.int .u64 0] 58 (0, 0) (vs := ((Shd.headL s).map hrow).flatten) rfl
  simpa using h
set_option maxHeartbeats 1000000 in
theorem shdPut (s : Shd.Sh) (hs : s.ok) (w : World) :
    Calls Try.prog 7 #[.agg (shC s)] w (OutB (Shd.putS s).1 (Shd.putS s).2 w) := by
  have h0 := shC0 s
  by_cases hk : Shd.kindB s.kind = true
  · have HV : Hid (Shd.putS s = (Shd.closed (Shd.core s), 0)) := if_pos hk
    have HH := Lib.hid (fun W => shdHead2 s hs W)
    have hbd : Rd (w.alloc (.cells (shC s) 26)) (w.heap.size + 1) (some ⟨w.heap.size, 5, none⟩) (s.body.map bv) := fun _ => by
      refine ⟨_, rfl, Nat.lt_succ_self _, fun j hj => ?_⟩
      rw [List.length_map] at hj
      rw [List.getElem_map]
      have e0 : (⟨w.heap.size, 5, none⟩ : Addr).add j = ⟨w.heap.size, 5 + j, none⟩ := by
        unfold Addr.add
        split <;> simp_all
      rw [e0]
      exact ((Blk.new w 26 (shC s)).cell (5 + j)).trans (shC5 s hj)
    have HOK := Lib.hid (Shd.headL_ok hs)
    have HBL := Lib.hid hs.2.2.2.2.2
    have hsz := Lib.hid (shCsize s hs)
    have HK := Lib.hid (fun W => shdKind s.kind W)
    rw [hk] at HK
    clear hk
    have HC := Lib.hid (show Shd.closed (Shd.core s) = Shd.core s ++ Num.leB (Crc.more 0#32 (Shd.core s)).toNat 4 from rfl)
    have HCO := Lib.hid (show Shd.core s = Shd.headTo s 6 ++ s.body by rw [Shd.headTo_all]; rfl)
    have HTL := Lib.hid (fun k => Shd.headTo_length s k)
    obtain ⟨C, hC⟩ : ∃ C, Hid (shC s = C) := ⟨_, rfl⟩
    rw [hC.out] at h0 HH hbd hsz ⊢
    go_enter Try.func7, Try.ntmps7
    go_wp2_with (first | (go_at_call 18; refine (HK.out _).mono ?_; rintro e w' ⟨rfl, rfl⟩) | (refine wpList_load_row rfl 26 (.tmp 1) rfl w.heap.size rfl 26 C (0, 0) _ (Blk.new _ _ _) Try.underlying26 rfl (by rw [hsz.out]; exact shdInfo) ?_) | (go_at_call 19; refine (HH.out _).mono ?_; rintro e w2 ⟨G, rfl, hr2, hb2⟩))
    have hz2 : w.heap.size + 1 ≤ w2.heap.size := by have := hb2.size; simpa using this
    replace hbd := (hbd.below (hb2.mono (by simp))).more hz2
    have hbw : Below w.heap.size w w2 := ((Below.refl _ _).alloc (Nat.le_refl _) _).trans (hb2.mono (by simp))
    clear hb2 HK HH h0 hz2
    go_loopw [4, 6, 14] (fun b _ i wr => ∃ k n A2 c2, k ≤ 6 ∧ i = .int .i64 (k : Nat) ∧ b = .slice A2 n c2 ∧ Hid ((Shd.headTo s k).length = n) ∧ n ≤ 16 ∧ Below w2.heap.size w2 wr ∧ wr.ownsRow w2.heap.size 5 1 (.slice A2 n c2) n ((Shd.headTo s k).map bv)) (fun _ _ i _ => 6 - (intOf i).toNat)
    case atStart => exact ⟨0, 0, none, 0, Nat.zero_le _, rfl, rfl, rfl, Nat.zero_le _, Below.refl _ _, World.ownsRow_nil _ _ _ _⟩
    case round =>
      obtain ⟨k, n, A2, c2, hk, rfl, rfl, hn, hn16, hb, ho⟩ := hrel
      by_cases hlt : k < 6
      · obtain ⟨g0, off0, hA, hB, hf⟩ := (hr2.below hb).fieldAt (s := 2) (rows := (Shd.headL s).map hrow) (by intro r hr; obtain ⟨p, _, rfl⟩ := List.mem_map.1 hr; rfl) (i := k) (by rw [List.length_map]; exact hlt) (by decide)
        rw [List.getElem_map] at hf
        injection hA with hA
        injection hA with hA1 hA2
        subst hA1 hA2
        have hp := HOK.out _ (List.getElem_mem (l := Shd.headL s) (show k < (Shd.headL s).length from hlt))
        have HN := Lib.hid (Shd.headTo_succ s (k := k) hlt)
        generalize (Shd.headL s)[k] = p at *
        obtain ⟨p1, p2⟩ := p
        simp only at hp HN
        obtain ⟨hp1, hp2, hp3⟩ := hp
        have hc0 := hf 0 _ rfl
        have hc1 := hf 1 _ rfl
        have hf' := trivial
        clear hf
        simp only [Nat.zero_add, Nat.add_zero] at hc0 hc1
        have HP3 := Lib.hid hp3
        have HPut : Hid (Num.put (Shd.headTo s k) (p1 : Int) p2 = Shd.headTo s (k + 1)) := by
          show Num.put _ _ _ = _
          rw [HN.out]
          unfold Num.put
          rw [if_pos ⟨by omega, by omega⟩, Int.toNat_natCast]
        clear hp3 HN hf'
        go_wp2_with (go_at_call 20; refine (Go.Proofs.Ytpkpdamdclafjaa.numPut A2 c2 (Shd.headTo s k) (p1 : Int) p2 _ _ ((Rd.of_own ho).alloc (Nat.le_refl _) _) hn.out (by simp) ⟨by omega, by omega⟩ HP3.out (by omega)).mono ?_; rintro e w3 ⟨A3, n3, c3, rfl, hn3, ho3, hb3⟩)
        rw [HPut.out] at hn3 ho3
        have hz : w2.heap.size ≤ (wr.alloc (.cells #[.int .i64 (p1 : Int), .int .u64 (p2 : Int)] 58)).heap.size := by have := hb.size; simp; omega
        exact ⟨⟨k + 1, n3, A3, c3, by omega, by go_num, rfl, hn3, by rw [← hn3]; exact HTL.out _, (hb.alloc hb.size _).trans (hb3.mono hz), ho3.mono hz⟩, by simp [intOf]; omega⟩
      · obtain rfl : k = 6 := by omega
        have hbd' := (hbd.below hb).more hb.size
        have hr3 : Hid (∀ A3 n3 c3 (w3 : World), w3.ownsRow w2.heap.size 5 1 (.slice A3 n3 c3) n3 ((Shd.core s).map bv) → Rd w3 w3.heap.size A3 ((Shd.core s).map bv)) := fun A3 n3 c3 w3 h => Rd.of_own h
        clear hr2 hbd
        go_wp2_with (first | (at_builtin; refine appB _ rfl (.tmp 25) (.tmp 27) rfl w2.heap.size A2 n c2 _ rfl ho _ (some ⟨w.heap.size, 5, none⟩) 44 44 (s.body.map bv) rfl (by rw [List.length_map]; exact HBL.out) hbd' one_bytes (by omega) hb.size ?_; intro A3 c3 w3 ho3 hg3 hb3))
        rw [← List.map_append, ← HCO.out] at ho3
        replace hb := hb.trans hb3
        have HNL : Hid ((Shd.core s).length = n + 44) := by
          show _ = _
          rw [HCO.out, List.length_append, hn.out, HBL.out]
        have hq := (Crc.more 0#32 (Shd.core s)).isLt
        have HS := Lib.hid (Go.Proofs.Ytpkpdamdclafjaa.crcSum A3 c3 (Shd.core s) w3 _ (Rd.of_own ho3) (by rw [HNL.out]; unfold maxLen; omega) HNL.out)
        obtain ⟨q, HQ⟩ : ∃ q, Hid ((Crc.more 0#32 (Shd.core s)).toNat = q) := ⟨_, rfl⟩
        rw [HQ.out] at hq HS HC
        clear hb3 hg3 hbd' ho HCO hn
        refine (HS.out).mono ?_
        rintro e w4 ⟨rfl, rfl⟩
        go_wp2_with (go_at_call 20; refine (Go.Proofs.Ytpkpdamdclafjaa.numPut A3 c3 (Shd.core s) 4 q _ _ (Rd.of_own ho3) HNL.out (Nat.le_refl _) (by decide) (by omega) (by omega)).mono ?_; rintro e w5 ⟨A5, n5, c5, rfl, hn5, ho5, hb5⟩)
        go_ret2
        have hp : Num.put (Shd.core s) 4 q = Shd.closed (Shd.core s) := HC.out.symm
        rw [hp] at hn5 ho5
        have hbs := hbw.size
        have hbs2 := hb.size
        exact ⟨A5, n5, c5, by rw [HV.out]; rfl, by rw [HV.out]; exact hn5, by rw [HV.out]; exact ho5.mono (by omega), hbw.trans (hb.trans (hb5.mono hbs2) |>.mono hbs)⟩
  · have HV : Hid (Shd.putS s = ([], 2)) := if_neg hk
    have HK := Lib.hid (fun W => shdKind s.kind W)
    have hk' : Shd.kindB s.kind = false := by simpa using hk
    rw [hk'] at HK
    clear hk hk'
    generalize shC s = C at *
    go_enter Try.func7, Try.ntmps7
    go_wp2_with (go_at_call 18; refine (HK.out _).mono ?_; rintro e w' ⟨rfl, rfl⟩)
    go_ret2
    exact ⟨none, 0, 0, by rw [HV.out]; rfl, by rw [HV.out]; rfl, by rw [HV.out]; exact World.ownsRow_nil _ _ _ _, (Below.refl _ _).alloc (Nat.le_refl _) _⟩
end Cib
