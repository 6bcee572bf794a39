/- Run, First: the closure, and what the walk with it finds. -/
import Derived.Test.YthdanbpciifieaaBmpK
set_option linter.unusedVariables false
set_option linter.unusedSimpArgs false
set_option maxRecDepth 20000
namespace Cib
open Go Go.RowKit Go.Proofs
variable {base g : Nat} {bs : List Bool} {A : Option Addr} {c : Nat}
/-- What Run's closure has before it: how many lie side by side, how many are wanted, and what was found. -/
structure RunC (w : World) (gs gm gf : Nat) (side many : Nat) (found : Int) : Prop where
  s : Blk w gs 3 #[.int .i64 (side : Int)]
  m : Blk w gm 3 #[.int .i64 (many : Int)]
  f : Blk w gf 3 #[.int .i64 found]
  d : gs ≠ gm ∧ gs ≠ gf ∧ gm ≠ gf
theorem RunC.below {w w' : World} {gs gm gf side many : Nat} {found : Int} (h : RunC w gs gm gf side many found) (hb : Below w.heap.size w w') : RunC w' gs gm gf side many found :=
  ⟨h.s.below hb h.s.lt, h.m.below hb h.m.lt, h.f.below hb h.f.lt, h.d⟩
theorem RunC.setS {w : World} {gs gm gf side many : Nat} {found : Int} (h : RunC w gs gm gf side many found) (s' : Nat) : RunC (w.setCell ⟨gs, 0, none⟩ (.int .i64 (s' : Int))) gs gm gf s' many found :=
  ⟨h.s.set 0 _, h.m.far (fun e => h.d.1 e.symm) _, h.f.far (fun e => h.d.2.1 e.symm) _, h.d⟩
theorem RunC.setF {w : World} {gs gm gf side many : Nat} {found : Int} (h : RunC w gs gm gf side many found) (f' : Int) : RunC (w.setCell ⟨gf, 0, none⟩ (.int .i64 f')) gs gm gf side many f' :=
  ⟨h.s.far h.d.2.1 _, h.m.far h.d.2.2 _, h.f.set 0 _, h.d⟩
theorem runTaken (gs gm gf side many : Nat) (i : Int) (w : World) (h : RunC w gs gm gf side many (-1)) (hm : 1 ≤ many) (hs : side ≤ 65536) (B : Nat) (hB : B ≤ gs ∧ B ≤ gf) :
    Calls Try.prog 27 #[.int .i64 i, .bool true, .pointer (some ⟨gs, 0, none⟩), .pointer (some ⟨gm, 0, none⟩), .pointer (some ⟨gf, 0, none⟩)] w
      fun e w' => e = .returned (.bool true) ∧ RunC w' gs gm gf 0 many (-1) ∧ Below B w w' := by
  have c1 := h.s.cell 0
  have c2 := h.m.cell 0
  have c3 := h.f.cell 0
  have f1 := h.s.frozen 0
  have n1 := h.d.1
  have n2 := h.d.2.1
  have HH := Lib.hid h
  have hmz : ((0 : Int) == (many : Int)) = false := by simp; omega
  go_enter Try.func27, Try.ntmps27
  go_wp2
  go_ret
  exact ⟨rfl, (HH.out.setS (side + 1)).setS 0, ((Below.refl B w).setCell hB.1 _).setCell hB.1 _⟩
theorem runFree (gs gm gf side many : Nat) (i : Nat) (w : World) (h : RunC w gs gm gf side many (-1)) (hm : side + 1 ≠ many) (hs : side ≤ i) (hi : i ≤ 65536) (B : Nat) (hB : B ≤ gs ∧ B ≤ gf) :
    Calls Try.prog 27 #[.int .i64 (i : Int), .bool false, .pointer (some ⟨gs, 0, none⟩), .pointer (some ⟨gm, 0, none⟩), .pointer (some ⟨gf, 0, none⟩)] w
      fun e w' => e = .returned (.bool true) ∧ RunC w' gs gm gf (side + 1) many (-1) ∧ Below B w w' := by
  have c1 := h.s.cell 0
  have c2 := h.m.cell 0
  have c3 := h.f.cell 0
  have f1 := h.s.frozen 0
  have n1 := h.d.1
  have n2 := h.d.2.1
  have HH := Lib.hid h
  have hmz : (((side : Int) + 1) == (many : Int)) = false := by simp; omega
  go_enter Try.func27, Try.ntmps27
  go_wp2
  go_ret
  exact ⟨rfl, HH.out.setS (side + 1), (Below.refl B w).setCell hB.1 _⟩
theorem runHit (gs gm gf side many : Nat) (i : Nat) (w : World) (h : RunC w gs gm gf side many (-1)) (hm : side + 1 = many) (hs : side ≤ i) (hi : i ≤ 65536) (B : Nat) (hB : B ≤ gs ∧ B ≤ gf) :
    Calls Try.prog 27 #[.int .i64 (i : Int), .bool false, .pointer (some ⟨gs, 0, none⟩), .pointer (some ⟨gm, 0, none⟩), .pointer (some ⟨gf, 0, none⟩)] w
      fun e w' => e = .returned (.bool false) ∧ RunC w' gs gm gf (side + 1) many ((i : Int) - many + 1) ∧ Below B w w' := by
  have c1 := h.s.cell 0
  have c2 := h.m.cell 0
  have c3 := h.f.cell 0
  have f1 := h.s.frozen 0
  have f3 := h.f.frozen 0
  have n1 := h.d.1
  have n2 := h.d.2.1
  have n3 := h.d.2.2
  have HH := Lib.hid h
  have hmz : (((side : Int) + 1) == (many : Int)) = true := by simp; omega
  have hng : decide ((i : Int) - (many : Int) + 1 < 0) = false := by simp; omega
  go_enter Try.func27, Try.ntmps27
  go_wp2
  go_ret
  exact ⟨rfl, (HH.out.setS (side + 1)).setF _, ((Below.refl B w).setCell hB.1 _).setCell hB.2 _⟩
theorem bmRun {w : World} (h : Mp w base g bs A c) (from_ many : Int) (hf : from_ ≤ 9223372036854775807) :
    Calls Try.prog 10 #[.pointer (some ⟨g, 0, none⟩), .int .i64 from_, .int .i64 many] w fun e w' => e = .returned (.int .i64 (Bmp.runF bs from_ many)) ∧ Below w.heap.size w w' := by
  by_cases hm : many < 1
  · have e : Bmp.runF bs from_ many = -1 := if_pos hm
    rw [e]
    clear h
    go_enter Try.func10, Try.ntmps10
    go_wp2
    go_ret
    exact ⟨rfl, (((Below.refl _ _).alloc (Nat.le_refl _) _).alloc (by simp) _).alloc (by simp; omega) _⟩
  · obtain ⟨n, rfl⟩ : ∃ n : Nat, many = (n : Int) := ⟨many.toNat, by omega⟩
    have hn1 : 1 ≤ n := by omega
    have e : Bmp.runF bs from_ n = Bmp.run n (bs.drop from_.toNat) from_.toNat 0 := by
      unfold Bmp.runF
      rw [if_neg hm, Int.toNat_natCast]
    rw [e]
    obtain ⟨R, hR⟩ : ∃ R, Bmp.run n (bs.drop from_.toNat) from_.toNat 0 = R := ⟨_, rfl⟩
    rw [hR]
    have HM := Lib.hid h
    have HR := Lib.hid hR
    clear h hm e hR
    go_enter Try.func10, Try.ntmps10
    go_wp2_with fail
    have k1 : Blk (((w.alloc (.cells #[.int .i64 (n : Int)] 3)).alloc (.cells #[.int .i64 (-1)] 3)).alloc (.cells #[.int .i64 0] 3)) w.heap.size 3 #[.int .i64 (n : Int)] := ((Blk.new w _ _).alloc _).alloc _
    have k2 : Blk (((w.alloc (.cells #[.int .i64 (n : Int)] 3)).alloc (.cells #[.int .i64 (-1)] 3)).alloc (.cells #[.int .i64 0] 3)) (w.heap.size + 1) 3 #[.int .i64 (-1)] := by
      simpa using (Blk.new (w.alloc (.cells #[.int .i64 (n : Int)] 3)) 3 #[.int .i64 (-1)]).alloc (.cells #[.int .i64 0] 3)
    have k3 : Blk (((w.alloc (.cells #[.int .i64 (n : Int)] 3)).alloc (.cells #[.int .i64 (-1)] 3)).alloc (.cells #[.int .i64 0] 3)) (w.heap.size + 1 + 1) 3 #[.int .i64 0] := by
      simpa using Blk.new ((w.alloc (.cells #[.int .i64 (n : Int)] 3)).alloc (.cells #[.int .i64 (-1)] 3)) 3 #[.int .i64 0]
    have hrc : RunC (((w.alloc (.cells #[.int .i64 (n : Int)] 3)).alloc (.cells #[.int .i64 (-1)] 3)).alloc (.cells #[.int .i64 0] 3)) (w.heap.size + 1 + 1) w.heap.size (w.heap.size + 1) 0 n (-1) :=
      ⟨by simpa using k3, k1, k2, by omega, by omega, by omega⟩
    have hb3 : Below w.heap.size w (((w.alloc (.cells #[.int .i64 (n : Int)] 3)).alloc (.cells #[.int .i64 (-1)] 3)).alloc (.cells #[.int .i64 0] 3)) :=
      (((Below.refl _ _).alloc (Nat.le_refl _) _).alloc (by simp) _).alloc (by simp; omega) _
    clear k1 k2 k3
    generalize (((w.alloc (.cells #[.int .i64 (n : Int)] 3)).alloc (.cells #[.int .i64 (-1)] 3)).alloc (.cells #[.int .i64 0] 3)) = w3 at *
    have hn := HM.out.n
    refine (walkRun (base := base) (g := g) (bs := bs) (A := A) (c := c) (w.heap.size + 1 + 1) w.heap.size (w.heap.size + 1)
      (fun i W => ∃ side, side ≤ i ∧ RunC W (w.heap.size + 1 + 1) w.heap.size (w.heap.size + 1) side n (-1) ∧ Below w.heap.size w W ∧ Bmp.run n (bs.drop i) i side = R)
      (fun W => ∃ side, RunC W (w.heap.size + 1 + 1) w.heap.size (w.heap.size + 1) side n R ∧ Below w.heap.size w W)
      ?_ ?_ ?_ from_ hf w3 ⟨0, Nat.zero_le _, hrc, hb3, HR.out⟩).mono ?_
    · rintro i W ⟨side, _, _, hbW, _⟩
      exact HM.out.below hbW
    · rintro i hi W ⟨side, hsi, hr, hbW, hrun⟩
      rw [Bmp.run_step n bs side hi] at hrun
      obtain ⟨b, hb⟩ : ∃ b, bs[i] = b := ⟨_, rfl⟩
      rw [hb] at hrun ⊢
      cases b
      · rw [if_neg (by decide)] at hrun
        by_cases hs : side + 1 = n
        · rw [if_pos hs] at hrun
          refine (runHit _ _ _ side n i W hr hs hsi (by omega) w.heap.size ⟨by omega, by omega⟩).mono ?_
          rintro e W' ⟨rfl, hr', hb'⟩
          rw [hrun] at hr'
          exact .inr ⟨rfl, _, hr', hbW.trans hb'⟩
        · rw [if_neg hs] at hrun
          refine (runFree _ _ _ side n i W hr hs hsi (by omega) w.heap.size ⟨by omega, by omega⟩).mono ?_
          rintro e W' ⟨rfl, hr', hb'⟩
          exact .inl ⟨rfl, _, by omega, hr', hbW.trans hb', hrun⟩
      · rw [if_pos rfl] at hrun
        refine (runTaken _ _ _ side n i W hr hn1 (by omega) w.heap.size ⟨by omega, by omega⟩).mono ?_
        rintro e W' ⟨rfl, hr', hb'⟩
        exact .inl ⟨rfl, 0, Nat.zero_le _, hr', hbW.trans hb', hrun⟩
    · rintro i hi hall W ⟨side, hsi, hr, hbW, hrun⟩
      rw [Bmp.run_trues n bs i side 64 hi hall, if_neg (by decide)] at hrun
      refine (runTaken _ _ _ side n ((i : Int) + 63) W hr hn1 (by omega) w.heap.size ⟨by omega, by omega⟩).mono ?_
      rintro e W' ⟨rfl, hr', hb'⟩
      exact .inl ⟨rfl, 0, Nat.zero_le _, hr', hbW.trans hb', hrun⟩
    · rintro e W' ⟨rfl, hD⟩
      have hfin : ∃ side, RunC W' (w.heap.size + 1 + 1) w.heap.size (w.heap.size + 1) side n R ∧ Below w.heap.size w W' := by
        rcases hD with hD | ⟨i, hi, side, _, hr, hbW, hrun⟩
        · exact hD
        · rw [Bmp.run_end n bs side hi] at hrun
          rw [hrun] at hr
          exact ⟨side, hr, hbW⟩
      obtain ⟨side, hr, hbW⟩ := hfin
      have c3 := hr.f.cell 0
      clear hD hrc hb3 hr
      go_wp2
      go_ret
      exact ⟨rfl, hbW⟩
theorem bmFirst {w : World} (h : Mp w base g bs A c) (from_ : Int) (hf : from_ ≤ 9223372036854775807) :
    Calls Try.prog 12 #[.pointer (some ⟨g, 0, none⟩), .int .i64 from_] w fun e w' => e = .returned (.int .i64 (Bmp.runF bs from_ 1)) ∧ Below w.heap.size w w' := by
  have HR := Lib.hid (bmRun h from_ 1 hf)
  clear h
  go_enter Try.func12, Try.ntmps12
  go_wp2_with fail
  refine HR.out.mono ?_
  rintro e w' ⟨rfl, hb⟩
  go_wp2
  go_ret
  exact ⟨rfl, hb⟩
end Cib
