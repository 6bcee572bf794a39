/- The law BitmapRuns. -/
import Derived.Test.YthdanbpciifieaaBmpT
set_option linter.unusedVariables false
set_option linter.unusedSimpArgs false
set_option maxRecDepth 20000
namespace Bmp
/-- Places taken, one behind the other. -/
def setAll (bs : List Bool) (xs : List Int) : List Bool := xs.foldl (fun b x => (set b x true).2) bs
theorem setAll_length (xs : List Int) : ∀ bs, (setAll bs xs).length = bs.length := by
  induction xs with
  | nil => exact fun _ => rfl
  | cons x xs ih => exact fun bs => by rw [setAll, List.foldl_cons]; exact (ih _).trans (set_length bs x true)
theorem setAll_take (bs : List Bool) (xs : List Int) (k : Nat) (h : k < xs.length) : setAll bs (xs.take (k + 1)) = (set (setAll bs (xs.take k)) xs[k] true).2 := by
  rw [List.take_succ_eq_append_getElem h, setAll, List.foldl_append]
  rfl
theorem runF_at (bs : List Bool) (from_ : Int) (many : Nat) (hm : 1 ≤ many) (K : Nat) (hK : max 0 (min from_ (bs.length : Int)) = (K : Int)) : run many (bs.drop K) K 0 = runF bs from_ many := by
  unfold runF
  rw [if_neg (by omega), Int.toNat_natCast]
  by_cases h : from_ ≤ bs.length
  · have : K = from_.toNat := by omega
    rw [this]
  · rw [run_end _ _ _ (by omega), run_end _ _ _ (by omega)]
end Bmp
namespace Cib
open Go Go.RowKit Go.Proofs
theorem rd_nth {w : World} {B : Nat} {A : Option Addr} {L : List Value} (h : Rd w B A L) {k : Nat} (hk : k < L.length) : ∃ ad, A = some ad ∧ w.cell? (ad.add k) = some L[k] := by
  obtain ⟨ad, e, hb, hc⟩ := h (by rintro rfl; simp at hk)
  exact ⟨ad, e, hc k hk⟩
theorem clampN (a : Int) (n : Nat) : ∃ K : Nat, Hid (max 0 (min a (n : Int)) = (K : Int)) ∧ K ≤ n := by
  refine ⟨(max 0 (min a (n : Int))).toNat, ?_, by omega⟩
  unfold Hid
  omega
set_option maxHeartbeats 1000000 in
theorem lawRuns (n from_ many : Int) (A : Option Addr) (cap : Nat) (xs : List Int) (w : World) (h : Rd w w.heap.size A (xs.map (Value.int .i64))) (hl : xs.length ≤ maxLen) (hf : -9223372036854775808 ≤ from_ ∧ from_ ≤ 9223372036854775807) :
    Calls Try.prog 3 #[.int .i64 n, .slice A xs.length cap, .int .i64 from_, .int .i64 many] w fun e w' => e = .returned (.bool true) ∧ Below w.heap.size w w' := by
  have hlm := hl
  unfold maxLen at hlm
  have HT := Lib.hid (fun W => takes W)
  by_cases hg : 0 ≤ n ∧ n ≤ 200 ∧ xs.length ≤ 200 ∧ 1 ≤ many ∧ many ≤ 200
  · obtain ⟨g1, g2, g3, g4, g5⟩ := hg
    obtain ⟨n, rfl⟩ : ∃ k : Nat, n = (k : Int) := ⟨n.toNat, by omega⟩
    obtain ⟨many, rfl⟩ : ∃ k : Nat, many = (k : Int) := ⟨many.toNat, by omega⟩
    have HN := Lib.hid (bmNew n (by omega) w)
    have HRD := Lib.hid h
    clear h
    go_enter Try.func3, Try.ntmps3
    go_wp2_with fail
    refine HN.out.mono ?_
    rintro e w1 ⟨g, A1, c1, rfl, hm1, hb1, hg1⟩
    clear HN
    have hle : (List.replicate n false).length = n := List.length_replicate
    go_wp2
    go_loopw [10] (fun x wr => ∃ k : Nat, k ≤ xs.length ∧ x = .int .i64 k ∧ Hid (Mp wr w.heap.size g (Bmp.setAll (List.replicate n false) (xs.take k)) A1 c1) ∧ Below w.heap.size w wr) (fun x _ => xs.length - (intOf x).toNat)
    case atStart => exact ⟨0, Nat.zero_le _, rfl, hm1, hb1⟩
    case round =>
      clear hm1 hb1
      obtain ⟨k, hk, rfl, hM, hb⟩ := hrel
      by_cases hlt : k < xs.length
      · obtain ⟨ad, rfl, hc⟩ := rd_nth (HRD.out.below hb) (k := k) (by simpa using hlt)
        rw [List.getElem_map] at hc
        have hst := Bmp.setAll_take (List.replicate n false) xs k hlt
        have HS := Lib.hid (bmSet hM.out xs[k] true)
        have HST := Lib.hid hst
        clear hst
        generalize xs[k] = x at *
        go_wp2_with fail
        refine HS.out.mono ?_
        rintro e w2 ⟨rfl, hm2, hb2, _⟩
        rw [← HST.out] at hm2
        go_wp2
        exact ⟨⟨k + 1, hlt, by go_num, hm2, hb.trans hb2⟩, by simp [intOf]; omega⟩
      · obtain rfl : k = xs.length := by omega
        rw [List.take_length] at hM
        have hbl : (Bmp.setAll (List.replicate n false) xs).length = n := by rw [Bmp.setAll_length, hle]
        generalize Bmp.setAll (List.replicate n false) xs = bs at *
        go_wp2_with fail
        refine (bmRun hM.out from_ many hf.2).mono ?_
        rintro e w2 ⟨rfl, hb2⟩
        have hM2 := Lib.hid (hM.out.below hb2)
        replace hb := hb.via hb2
        obtain ⟨K, hK, hKn⟩ := clampN from_ n
        have hrun := Bmp.runF_at bs from_ many (by omega) K (by rw [hbl]; exact hK.out)
        obtain ⟨R, hR⟩ : ∃ R, Hid (Bmp.runF bs from_ many = R) := ⟨_, rfl⟩
        rw [hR.out] at hrun ⊢
        have HRUN := Lib.hid hrun
        have HBL := Lib.hid hbl
        clear hM hb2 hrun hbl hR hk hlt
        go_upto_region 11 with fail
        go_cut [14] (fun x wx => x = .int .i64 (K : Int) ∧ wx = w2)
        case first =>
          have hK' := hK.out
          clear hK HRUN
          go_wp2_with fail
          all_goals (go_meet; exact ⟨int_eq (by omega), rfl⟩)
        case rest =>
          obtain ⟨rfl, rfl⟩ := hcut
          go_wp2
          go_loopw [12, 13, 14] (fun s f i wr => ∃ (side k : Nat) (fv : Int), s = .int .i64 side ∧ f = .int .i64 fv ∧ i = .int .i64 k ∧ side ≤ k ∧ ((fv = -1 ∧ k ≤ n ∧ Hid (Bmp.run many (bs.drop k) k side = R)) ∨ (fv = R ∧ 0 ≤ R ∧ k ≤ n)) ∧ wr = wc) (fun _ _ i _ => n - (intOf i).toNat)
          case atStart => exact ⟨0, K, -1, rfl, rfl, rfl, Nat.zero_le _, .inl ⟨rfl, hKn, HRUN⟩, by first | rfl | trivial⟩
          case round =>
            obtain ⟨side, k, fv, rfl, rfl, rfl, hsk, hcase, rfl⟩ := hrel
            by_cases hgo : k < n ∧ fv < 0
            · obtain ⟨hkn, hfv⟩ := hgo
              obtain ⟨rfl, _, hr⟩ : fv = -1 ∧ k ≤ n ∧ Hid (Bmp.run many (bs.drop k) k side = R) := by
                rcases hcase with h1 | ⟨h1, h2, _⟩
                · exact h1
                · omega
              have hkb : k < bs.length := by rw [HBL.out]; exact hkn
              have hst := hr.out
              rw [Bmp.run_step many bs side hkb] at hst
              have HHAS := Lib.hid (bmHas hM2.out (k : Int))
              rw [Bmp.has_in hkb] at HHAS
              generalize bs[k] = b at *
              have HST := Lib.hid hst
              clear hst hr hcase hfv
              cases b
              · by_cases hs : side + 1 = many
                · have hmz : (((side : Int) + 1) == (many : Int)) = true := by simp; omega
                  have hRv : R = (k : Int) - (many : Int) + 1 := by
                    have := HST.out
                    rw [if_neg (by decide), if_pos hs] at this
                    exact this.symm
                  have HRV := Lib.hid hRv
                  clear hRv HST
                  go_wp2_with fail
                  refine HHAS.out.mono ?_
                  rintro e w4 ⟨rfl, rfl⟩
                  go_wp2
                  exact ⟨⟨side + 1, k + 1, R, by go_num, by rw [HRV.out], by go_num, by omega, .inr ⟨rfl, by rw [HRV.out]; omega, by omega⟩, by first | rfl | trivial⟩, by simp [intOf]; omega⟩
                · have hmz : (((side : Int) + 1) == (many : Int)) = false := by simp; omega
                  have hrn : Hid (Bmp.run many (bs.drop (k + 1)) (k + 1) (side + 1) = R) := by
                    have := HST.out
                    rw [if_neg (by decide), if_neg hs] at this
                    exact this
                  clear HST
                  go_wp2_with fail
                  refine HHAS.out.mono ?_
                  rintro e w4 ⟨rfl, rfl⟩
                  go_wp2
                  exact ⟨⟨side + 1, k + 1, -1, by go_num, by go_num, by go_num, by omega, .inl ⟨rfl, by omega, hrn⟩, by first | rfl | trivial⟩, by simp [intOf]; omega⟩
              · have hmz : ((0 : Int) == (many : Int)) = false := by simp; omega
                have hrn : Hid (Bmp.run many (bs.drop (k + 1)) (k + 1) 0 = R) := by
                  have := HST.out
                  rw [if_pos rfl] at this
                  exact this
                clear HST
                go_wp2_with fail
                refine HHAS.out.mono ?_
                rintro e w4 ⟨rfl, rfl⟩
                go_wp2
                exact ⟨⟨0, k + 1, -1, by go_num, by go_num, by go_num, by omega, .inl ⟨rfl, by omega, hrn⟩, by first | rfl | trivial⟩, by simp [intOf]; omega⟩
            · obtain rfl : fv = R := by
                rcases hcase with ⟨h1, h2, h3⟩ | ⟨h1, _⟩
                · have := h3.out
                  rw [Bmp.run_end many bs side (by rw [HBL.out]; omega)] at this
                  omega
                · exact h1
              clear hcase
              have hex : (¬ k < n) ∨ (k < n ∧ ¬ fv < 0) := by omega
              clear hgo
              rcases hex with hex | ⟨hex, hfv⟩
              all_goals
                go_wp2_with fail
                refine (bmFirst hM2.out from_ hf.2).mono ?_
                rintro e w3 ⟨rfl, hb3⟩
                have hM3 := Lib.hid (hM2.out.below hb3)
                have hb4 := hb.via hb3
                clear hb3
                go_wp2_with fail
                refine (bmRun hM3.out from_ 1 hf.2).mono ?_
                rintro e w4 ⟨rfl, hb5⟩
                have hM4 := Lib.hid (hM3.out.below hb5)
                replace hb4 := hb4.via hb5
                clear hb5
                generalize Bmp.runF bs from_ 1 = R1 at *
                go_wp2_with fail
                refine (bmRun hM4.out from_ 0 hf.2).mono ?_
                rintro e w5 ⟨rfl, hb6⟩
                have e0 : Bmp.runF bs from_ 0 = -1 := if_pos (by decide)
                rw [e0]
                replace hb4 := hb4.via hb6
                clear hb6 e0
                go_wp2_with fail
                refine (HT.out _).mono ?_
                rintro e w6 ⟨rfl, hb7⟩
                go_wp2
                go_ret
                exact ⟨rfl, hb4.via hb7⟩
  · have hgo : n < 0 ∨ (0 ≤ n ∧ 200 < n) ∨ (0 ≤ n ∧ n ≤ 200 ∧ 200 < (xs.length : Int)) ∨ (0 ≤ n ∧ n ≤ 200 ∧ (xs.length : Int) ≤ 200 ∧ many < 1) ∨ (0 ≤ n ∧ n ≤ 200 ∧ (xs.length : Int) ≤ 200 ∧ 1 ≤ many ∧ 200 < many) := by omega
    clear hg h
    rcases hgo with hgo | ⟨h1, hgo⟩ | ⟨h1, h2, hgo⟩ | ⟨h1, h2, h3, hgo⟩ | ⟨h1, h2, h3, h4, hgo⟩
    all_goals
      go_enter Try.func3, Try.ntmps3
      go_wp2_with fail
      refine (HT.out _).mono ?_
      rintro e w' ⟨rfl, hb⟩
      go_wp2
      go_ret
      exact ⟨rfl, hb⟩
end Cib
