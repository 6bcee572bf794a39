/- rising, New. -/
import Derived.Test.YtmfilmkdaokbbaaCodW
set_option linter.unusedVariables false
set_option linter.unusedSimpArgs false
set_option maxRecDepth 40000
namespace Cib
open Go Go.RowKit Go.Proofs
theorem cdRising (a b : Nat) (hab : a ≤ b) (hb : b ≤ 255) (w : World) : Calls Try.prog 25 #[.int .i64 (a : Int), .int .i64 (b : Int)] w (NewB (Cod.ris a (b - a)) w) := by
  obtain ⟨n, hn⟩ : ∃ n, b - a = n := ⟨_, rfl⟩
  have hn2 : (b : Int) - (a : Int) = (n : Int) := by omega
  have hn3 : n ≤ 255 := by omega
  obtain ⟨i0, hi, hz0, hz1, hz2⟩ := info_parts infoByte
  have hmk : ∀ W : World, (Instr.makeSlice 22 (.int .i64 0) (.int .i64 (n : Int))).run Try.prog W = .ok (.slice (some ⟨W.heap.size, 0, none⟩) 0 n) (W.alloc (.cells (madeCells #[.int .u8 0] n) 5)) := fun W => by
    have := run_make (P := Try.prog) W 22 5 i0 (.int .u8 0) Try.underlying22 hi hz0 .i64 .i64 0 (n : Int) (by omega) (by omega) (by rw [hz2]; omega) (by omega)
    rw [hz1, Nat.mul_one, Int.toNat_natCast] at this
    exact this
  rw [hn]
  go_enter Try.func25, Try.ntmps25
  go_wp2
  go_loopw [5, 6] (fun l i wr => ∃ (p : Nat) (A : Option Addr) (c : Nat), i = .int .i64 ((a + p : Nat) : Int) ∧ l = .slice A p c ∧ p ≤ n ∧ Hid (wr.ownsRow w.heap.size 5 1 (.slice A p c) p ((Cod.ris a p).map bv)) ∧ Hid (Below w.heap.size w wr)) (fun _ i _ => b - (intOf i).toNat)
  case atStart =>
    refine ⟨0, some ⟨w.heap.size, 0, none⟩, n, by go_num, rfl, Nat.zero_le _, ?_, (Below.refl _ _).alloc (Nat.le_refl _) _⟩
    have := own_made w w.heap.size 5 (.int .u8 0) 0 n (Nat.le_refl _) (Nat.zero_le _) (by unfold maxLen; omega)
    show World.ownsRow _ _ _ _ _ _ _
    simpa [Cod.ris] using this
  case round =>
    obtain ⟨p, A, c, rfl, rfl, hp, hO, hB⟩ := hrel
    by_cases hlt : p < n
    · obtain ⟨x, hx⟩ : ∃ x, a + p = x := ⟨_, rfl⟩
      rw [hx]
      have hxl : x < b := by omega
      obtain ⟨z, hz, hzn⟩ := byte_mk (show x < 256 by omega)
      have hcv : IntKind.u8.wrap (x : Int) = (z.toNat : Int) := by rw [IntKind.wrap_u8, ← hzn]; omega
      have HN : Hid ((Cod.ris a (p + 1)).map bv = (Cod.ris a p).map bv ++ [bv z]) := by
        show _ = _
        rw [Cod.ris_next, hx, hz.out, List.map_append]
        rfl
      have hs := hB.out.size
      go_wp2_with (at_builtin; refine appB _ rfl (.tmp 17) (.tmp 20) rfl w.heap.size A p c ((Cod.ris a p).map bv) rfl (hO.out.alloc _) _ (some ⟨wr.heap.size, 0, none⟩) 1 1 [bv z] rfl rfl (Rd.new wr _ _ _ (by simp [bv, hcv])) one_byte (by omega) (by simp; omega) ?_; intro A1 c1' w1 ho1 hg1 hb1)
      go_roundw
      case rel => exact ⟨p + 1, A1, c1', by go_num, rfl, hlt, by (show World.ownsRow _ _ _ _ _ _ _; rw [HN.out]; exact ho1), (hB.out.alloc hs _).trans hb1⟩
      case measure => simp [intOf]; omega
    · obtain rfl : p = n := by omega
      have hx : ((a + p : Nat) : Int) = (b : Int) := by omega
      rw [hx]
      go_wp2
      go_ret
      exact ⟨A, p, c, rfl, Cod.ris_length _ _, hO.out, hB.out⟩
theorem Stp.pre {w w1 w2 : World} {g : Nat} (hb : Below w.heap.size w w1) (h : Stp g w1 w2) : Stp g w w2 :=
  ⟨h.full, h.os.trans hb.os, h.tape.trans hb.tape, h.output.trans hb.output, Nat.le_trans hb.size h.size, fun k hk hkg => (h.oth k (Nat.lt_of_lt_of_le hk hb.size) hkg).trans (hb.block k hk)⟩
/-- May a coder be of so many rows? -/
def mayC (k m : Int) : Prop := 1 ≤ k ∧ 1 ≤ m ∧ k ≤ 255 ∧ m ≤ 255 - k
theorem cdNew0 (p : Value) (k m : Int) (h : ¬ mayC k m) (hk : -9223372036854775808 ≤ k ∧ k ≤ 9223372036854775807) (hm : -9223372036854775808 ≤ m ∧ m ≤ 9223372036854775807) (w : World) :
    Calls Try.prog 7 #[p, .int .i64 k, .int .i64 m] w fun e w' => e = .returned (.pointer none) ∧ w' = w := by
  unfold mayC at h
  by_cases h1 : k < 1
  · go_enter Try.func7, Try.ntmps7
    go_wp2
    go_ret
    exact ⟨rfl, rfl⟩
  · by_cases h2 : m < 1
    · go_enter Try.func7, Try.ntmps7
      go_wp2
      go_ret
      exact ⟨rfl, rfl⟩
    · by_cases h3 : 255 < k
      · go_enter Try.func7, Try.ntmps7
        go_wp2
        go_ret
        exact ⟨rfl, rfl⟩
      · have h4 : 255 - k < m := by omega
        go_enter Try.func7, Try.ntmps7
        go_wp2
        go_ret
        exact ⟨rfl, rfl⟩
set_option maxHeartbeats 1600000 in
theorem cdNew (gf k m : Nat) (hk : 1 ≤ k) (hm : 1 ≤ m) (hs : k + m ≤ 255) (w : World) (h : Fld w gf) : Calls Try.prog 7 #[.pointer (some ⟨gf, 0, none⟩), .int .i64 (k : Int), .int .i64 (m : Int)] w fun e w' =>
    ∃ g A c, e = .returned (.pointer (some ⟨g, 0, none⟩)) ∧ w.heap.size ≤ g ∧ Cdr w' g gf k m A c ∧ Stp gf w w' := by
  have HG := Lib.hid h.lt
  have HR1 := Lib.hid (fun W => cdRising k (k + m) (by omega) (by omega) W)
  have HR2 := Lib.hid (fun W => cdRising 0 k (by omega) (by omega) W)
  rw [show k + m - k = m from by omega, show ((k + m : Nat) : Int) = (k : Int) + m from by omega] at HR1
  rw [Nat.sub_zero] at HR2
  go_enter Try.func7, Try.ntmps7
  go_wp2_with fail
  refine (HR1.out _).mono ?_
  rintro e w1 ⟨A1, n1, c1, rfl, hn1, ho1, hb1⟩
  rw [Cod.ris_length] at hn1
  subst hn1
  go_wp2_with fail
  refine (HR2.out _).mono ?_
  rintro e w2 ⟨A2, n2, c2, rfl, hn2, ho2, hb2⟩
  rw [Cod.ris_length] at hn2
  subst hn2
  have hb12 := hb1.via hb2
  have hf2 : Fld w2 gf := by
    rcases h with h | h
    · exact .inl (h.below hb12 h.lt)
    · exact .inr (h.below hb12 h.lt)
  have hz1 := hb1.size
  have hz2 := hb2.size
  have hap : ∀ {W : World} {b : Nat} {A : Option Addr} {n c : Nat} {vs : List Value}, w.heap.size ≤ b → W.ownsRow b 5 1 (.slice A n c) n vs → 0 < n → ∀ ad, A = some ad → ad.block ≠ gf := by
    intro W b A n c vs hb ho hn ad e
    obtain ⟨g', rfl, hg'⟩ := own_at ho hn
    injection e with e
    subst e
    have := HG.out
    show g' ≠ gf
    omega
  have hC := matCauchy gf A1 A2 m k c1 c2 _ _ w2 hf2 w2.heap.size (Nat.le_refl _) (((Rd.of_own ho1).below hb2).more hz2) (Rd.of_own ho2) (hap (Nat.le_refl _) ho1 (by omega)) (hap hz1 ho2 (by omega)) (Cod.ris_length _ _) (Cod.ris_length _ _) (own_cap ho1).1 (own_cap ho2).1 (own_cap ho1).2 (own_cap ho2).2 (by omega) (by omega) (Cod.ris_both hs)
  have HB12 := Lib.hid hb12
  have HC := Lib.hid hC
  clear ho1 ho2 hb1 hb2 hf2 hap hb12 hC h
  go_wp2_with fail
  refine HC.out.mono ?_
  rintro e w3 ⟨A, c, rfl, hl3, ho3, hs3⟩
  have HO3 := Lib.hid ho3
  have HS3 := Lib.hid hs3
  have hz3 := hs3.size
  clear ho3 hs3 HC
  unfold mv
  have hr : Blk (w3.alloc (.cells #[.int .i64 0, .int .i64 0, .slice none 0 0] 57)) w3.heap.size 57 #[.int .i64 0, .int .i64 0, .slice none 0 0] := Blk.new _ _ _
  go_wp2_with (first | (refine wpList_load_row rfl 57 (.tmp 7) rfl w3.heap.size rfl 57 (mv m k A (m * k) c) (0, 0) _ (hr.row _) Try.underlying57 rfl matInfo3 ?_; unfold mv) | (refine wpList_store_row rfl 57 (.tmp 7) (.tmp 35) rfl w3.heap.size (mv m k A (m * k) c) rfl rfl 57 (mv 0 0 none 0 0) hr matInfo3 rfl (mv_one _ _ _ _ _) ?_))
  go_ret
  have hb4 : Below w3.heap.size w3 (((w3.alloc (.cells #[.int .i64 0, .int .i64 0, .slice none 0 0] 57)).setRow w3.heap.size (mv m k A (m * k) c)).alloc (.cells (cdC k m gf A c) 64)) :=
    (below_setRow ((Below.refl _ _).alloc (Nat.le_refl _) _) (Nat.le_refl _) _).alloc (by rw [size_setRow]; simp) _
  have hN := Blk.new ((w3.alloc (.cells #[.int .i64 0, .int .i64 0, .slice none 0 0] 57)).setRow w3.heap.size (mv m k A (m * k) c)) 64 (cdC k m gf A c)
  rw [size_setRow, World.size_alloc] at hN
  refine ⟨_, A, c, rfl, by omega, ⟨hN, ?_, HS3.out.full.on hb4, (own_cap HO3.out).1, (own_cap HO3.out).2, hk, hm, hs⟩, Stp.pre HB12.out (HS3.out.via hb4)⟩
  exact ((Rd.of_own HO3.out).below hb4).more hb4.size
end Cib
