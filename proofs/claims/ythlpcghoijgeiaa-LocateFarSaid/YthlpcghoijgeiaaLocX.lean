/- sets, walked. -/
import Derived.Test.YthlpcghoijgeiaaLocV
set_option linter.unusedVariables false
set_option linter.unusedSimpArgs false
set_option maxRecDepth 40000
namespace Loc
theorem Asc.tail {n : Nat} : ∀ {p : List Nat} {lo : Nat} {r : List Nat}, Asc n lo (p ++ r) → ∃ lo', Asc n lo' r
  | [], lo, r, h => ⟨lo, h⟩
  | c :: p, lo, r, h => h.2.2.tail
theorem Asc.room {n : Nat} {p : List Nat} {lo a : Nat} {r : List Nat} (h : Asc n lo (p ++ a :: r)) : a + 1 + r.length ≤ n := by
  obtain ⟨lo', h1, h2, h3⟩ := h.tail
  cases r with
  | nil =>
    show a + 1 + 0 ≤ n
    omega
  | cons b r => exact h3.len (by simp)
end Loc
namespace Cib
open Go Go.RowKit Go.Proofs
/-- What the function answers that is asked of each set. -/
def ConR (gf : Nat) (I F : World → Prop) (T : List Nat → Prop) (s : List Nat) (w : World) (e : Ending) (w' : World) : Prop :=
  ∃ x, e = .returned (.bool x) ∧ Bf gf w w' ∧ I w' ∧ (x = true → F w') ∧ (x = false → T s)
def SetsR (n many : Nat) (I F : World → Prop) (T : List Nat → Prop) (e : Ending) (w' : World) : Prop :=
  ∃ x, e = .returned (.bool x) ∧ I w' ∧ (x = true → F w') ∧ (x = false → ∀ s, Loc.Asc n 0 s → s.length = many → T s)
theorem put_mid {p0 r : List Nat} {a x q : Nat} (hq : p0.length = q) : (p0 ++ a :: r).set q x = p0 ++ x :: r := by
  subst hq
  rw [List.set_append_right _ _ (Nat.le_refl _), Nat.sub_self]
  rfl
theorem get_mid {p0 r : List Nat} {a q : Nat} (hq : p0.length = q) (h : q < (p0 ++ a :: r).length) : (p0 ++ a :: r)[q] = a := by
  subst hq
  rw [List.getElem_append_right (Nat.le_refl _)]
  simp
theorem makeI (n : Nat) (hn : n ≤ 1000000) (W : World) : (Instr.makeSlice 34 (.int .i64 (n : Int)) (.int .i64 (n : Int))).run Try.prog W = .ok (.slice (some ⟨W.heap.size, 0, none⟩) n n) (W.alloc (.cells (madeCells #[.int .i64 0] n) 3)) := by
  obtain ⟨i0, hi, hz0, hz1, hz2⟩ := info_parts infoInts
  have := run_make (P := Try.prog) W 34 3 i0 (.int .i64 0) Try.underlying34 hi hz0 .i64 .i64 (n : Int) (n : Int) (by omega) (by omega) (by rw [hz2]; omega) (by omega)
  rw [hz1, Nat.mul_one, Int.toNat_natCast] at this
  exact this
set_option maxHeartbeats 2000000 in
theorem locSets (n many fn : Nat) (caps : Array Value) (gf : Nat) (w : World) (I F : World → Prop) (T : List Nat → Prop) (hmn : many ≤ n) (hn : n ≤ 255) (hent : ∀ (a : Array Value) (W : World), (callFunc fn a).run Try.prog W = .ok (.enter fn a) W) (hgf : gf < w.heap.size)
    (hI0 : I w) (hI : ∀ W W', I W → Below w.heap.size W W' → I W')
    (H : ∀ s, Loc.Asc n 0 s → s.length = many → ∀ A c W, w.heap.size ≤ W.heap.size → Rd W W.heap.size A (s.map iv) → I W → Calls Try.prog fn (#[.slice A many c] ++ caps) W (ConR gf I F T s W)) :
    Calls Try.prog 47 #[.int .i64 (n : Int), .int .i64 (many : Int), .func (.func fn) #[] caps] w (SetsR n many I F T) := by
  have HH := Lib.hid H
  have HI := Lib.hid hI
  have hmk := makeI many (by omega)
  have HI1 : Hid (I (w.alloc (.cells (madeCells #[.int .i64 0] many) 3))) := Lib.hid (hI _ _ hI0 ((Below.refl _ _).alloc (Nat.le_refl _) _))
  have HR1 : Hid (Row (w.alloc (.cells (madeCells #[.int .i64 0] many) 3)) w.heap.size w.heap.size many (Loc.upS 0 0 ++ List.replicate (many - 0) 0)) := Lib.hid (by
    have h5 := own_made w w.heap.size 3 (.int .i64 0) many many (Nat.le_refl _) (Nat.le_refl _) (by unfold maxLen; omega)
    unfold Row
    rw [show Loc.upS 0 0 = [] from rfl, List.nil_append, Nat.sub_zero, List.map_replicate]
    exact h5)
  clear H hI hI0
  go_enter Try.func47, Try.ntmps47
  go_wp2
  go_step3
  go_wp2
  go_loopw [8, 14] (fun _ i wr => ∃ p : Nat, i = .int .i64 p ∧ p ≤ many ∧ Hid (Row wr w.heap.size w.heap.size many (Loc.upS 0 p ++ List.replicate (many - p) 0)) ∧ Hid (I wr) ∧ w.heap.size ≤ wr.heap.size) (fun _ i _ => many - (intOf i).toNat)
  case atStart => exact ⟨0, rfl, Nat.zero_le _, HR1, HI1, by simp⟩
  case round =>
    clear HR1 HI1 hmk
    obtain ⟨p, rfl, hp, HR, HIW, hsz⟩ := hrel
    by_cases hlt : p < many
    · have hj : p < (Loc.upS 0 p ++ List.replicate (many - p) 0).length := by rw [HR.out.len]; exact hlt
      obtain ⟨hc1, hf1⟩ := HR.out.at_ hj
      generalize (Loc.upS 0 p ++ List.replicate (many - p) 0)[p] = v1 at hc1
      have HR2 := Lib.hid (HR.out.put p p)
      have e : (Loc.upS 0 p ++ List.replicate (many - p) 0).set p p = Loc.upS 0 (p + 1) ++ List.replicate (many - (p + 1)) 0 := by
        rw [show many - p = (many - (p + 1)) + 1 from by omega, List.replicate_succ, List.set_append_right _ _ (by rw [Loc.upS_length]; exact Nat.le_refl _), Loc.upS_length, Nat.sub_self]
        unfold Loc.upS
        rw [List.range'_concat]
        simp
      rw [e] at HR2
      have HI2 := Lib.hid (HI.out _ _ HIW.out ((Below.refl w.heap.size wr).setCell (p := ⟨w.heap.size, p, none⟩) (Nat.le_refl _) (.int .i64 (p : Int))))
      clear e hj HR HIW
      go_wp2
      go_roundw
      case rel => exact ⟨p + 1, by go_num, hlt, HR2, HI2, by simpa using hsz⟩
      case measure => simp [intOf]; omega
    · obtain rfl : p = many := by omega
      have hrow := HR.out
      rw [Nat.sub_self, List.replicate_zero, List.append_nil] at hrow
      have HRW := Lib.hid hrow
      have HAS := Lib.hid (Loc.Asc.up (n := n) (lo := 0) (len := p) (by omega))
      have hul := Loc.upS_length 0 p
      clear hrow HR hlt hp
      go_wp2
      go_step3
      go_wp2
      go_upto_region 7 with fail
      go_loopw [9] (fun _ w2 => ∃ s : List Nat, Hid (Loc.Asc n 0 s) ∧ Hid (s.length = p) ∧ Hid (Row w2 w.heap.size w.heap.size p s) ∧ Hid (I w2) ∧ w.heap.size ≤ w2.heap.size ∧ Hid (∀ t, Loc.Asc n 0 t → t.length = p → Loc.ltS t s → T t)) (fun _ w2 => (n + 1) ^ p - Loc.val n (rdS w2 w.heap.size p))
      case atStart => exact ⟨Loc.upS 0 p, HAS, Lib.hid hul, HRW, HIW, hsz, Lib.hid fun t ht hl hlt => absurd hlt (by rw [← hl]; exact Loc.minS ht)⟩
      case round =>
        clear HAS HRW HIW hul hsz
        obtain ⟨s, HAS, HLS, HRW, HIW, hsz, HTR⟩ := hrel
        have HCN := Lib.hid (HH.out s HAS.out HLS.out (some ⟨w.heap.size, 0, none⟩) p wr hsz (Rd.of_own HRW.out) HIW.out)
        go_wp2_with fail
        refine HCN.out.mono ?_
        rintro e w2 ⟨x, rfl, hbf, hI2, hF, hT⟩
        have HRW2 : Hid (Row w2 w.heap.size w.heap.size p s) := Lib.hid (hbf.own HRW.out hgf)
        have hsz2 : w.heap.size ≤ w2.heap.size := Nat.le_trans hsz hbf.size
        have HI2 := Lib.hid hI2
        have HVR := Lib.hid HRW.out.rd
        clear hbf hI2 HRW HIW HCN hsz
        cases x
        · have HTS := Lib.hid (hT rfl)
          clear hT hF
          go_wp2
          go_loopw [9] (fun i w3 => ∃ (q : Nat) (p0 r : List Nat), i = .int .i64 ((q : Int) - 1) ∧ q ≤ p ∧ Hid (p0.length = q) ∧ Hid (s = p0 ++ r) ∧ Hid (r = Loc.upS (n - r.length) r.length) ∧ w3 = w2) (fun i _ => (intOf i + 1).toNat)
          case atStart => exact ⟨p, s, [], by first | rfl | go_num, Nat.le_refl _, HLS, Lib.hid (by simp), Lib.hid rfl, rfl⟩
          case round =>
            obtain ⟨q, p0, r, rfl, hq, HP0, HSR, HMX, hww⟩ := hrel
            replace hww := hww.symm
            subst hww
            by_cases hq0 : q = 0
            · subst hq0
              have hp0 : p0 = [] := List.eq_nil_of_length_eq_zero HP0.out
              have HFIN : Hid (∀ t, Loc.Asc n 0 t → t.length = p → T t) := Lib.hid fun t ht hl => by
                have hs : s = r := by rw [HSR.out, hp0]; rfl
                have hrl : r.length = p := by rw [← hs]; exact HLS.out
                have hm := Loc.maxS ht
                rw [hl, ← hrl, ← HMX.out, ← hs] at hm
                rcases hm with h1 | h1
                · exact HTR.out t ht hl h1
                · rw [h1]
                  exact HTS.out
              go_wp2
              try rw [Exit.noGoto_ret]
              refine bodyPost_ret (results_tmp rfl _ _ _) rfl ?_
              exact ⟨false, rfl, HI2.out, fun h => (by cases h), fun _ => HFIN.out⟩
            · obtain ⟨q, rfl⟩ : ∃ q', q = q' + 1 := ⟨q - 1, by omega⟩
              obtain ⟨p1, a, hp1⟩ : ∃ p1 a, p0 = p1 ++ [a] := by
                rcases List.eq_nil_or_concat p0 with h1 | ⟨p1, a, h1⟩
                · have := HP0.out
                  rw [h1] at this
                  simp at this
                · exact ⟨p1, a, by rw [h1, List.concat_eq_append]⟩
              have hq1 : p1.length = q := by
                have := HP0.out
                rw [hp1] at this
                simpa using this
              have hsa : s = p1 ++ a :: r := by rw [HSR.out, hp1]; simp
              have hl := HLS.out
              rw [hsa] at hl
              simp only [List.length_append, List.length_cons, hq1] at hl
              have has := HAS.out
              rw [hsa] at has
              have hroom := has.room
              have han : a < n := has.lt a (by simp)
              have hrw := HRW2.out
              rw [hsa] at hrw
              obtain ⟨hc1, hf1⟩ := hrw.at_ (j := q) (by rw [hrw.len]; omega)
              rw [get_mid hq1] at hc1
              have hqi : ((q + 1 : Nat) : Int) - 1 = (q : Int) := by omega
              rw [hqi]
              have HQ1 := Lib.hid hq1
              have HSA := Lib.hid hsa
              have HHL := Lib.hid hl
              have hqp : q < p := by omega
              obtain ⟨rl, hrl⟩ : ∃ rl, r.length = rl := ⟨_, rfl⟩
              rw [hrl] at hl hroom
              by_cases hcmp : (a : Int) < (n : Int) - (p : Int) + (q : Int)
              · have hput := hrw.put q (a + 1)
                rw [put_mid hq1] at hput
                have HB3 := Lib.hid ((Below.refl w.heap.size w2).setCell (p := ⟨w.heap.size, q, none⟩) (Nat.le_refl _) (.int .i64 ((a + 1 : Nat) : Int)))
                rw [Int.natCast_succ] at hput HB3
                have hsz3 : w.heap.size ≤ (w2.setCell ⟨w.heap.size, q, none⟩ (.int .i64 ((a : Int) + 1))).heap.size := by simpa using hsz2
                have HFO := Lib.hid (locFollow w.heap.size w.heap.size p p1 (a + 1) r _ hput (by omega) (by omega))
                rw [hq1, Nat.add_sub_cancel] at HFO
                have HAN : Hid (Loc.Asc n 0 (p1 ++ Loc.upS (a + 1) (r.length + 1))) := Lib.hid (has.next (by rw [hrl]; omega))
                have HLN : Hid ((p1 ++ Loc.upS (a + 1) (r.length + 1)).length = p) := Lib.hid (by rw [List.length_append, Loc.upS_length, hq1, hrl]; omega)
                have HTN : Hid (∀ t, Loc.Asc n 0 t → t.length = p → Loc.ltS t (p1 ++ Loc.upS (a + 1) (r.length + 1)) → T t) := Lib.hid fun t ht htl hlt => by
                  rcases Loc.nextS HMX.out (by rw [htl, ← HSA.out]; exact HLS.out.symm) ht hlt with h1 | h1
                  · rw [← HSA.out] at h1
                    exact HTR.out t ht htl h1
                  · rw [h1, ← HSA.out]
                    exact HTS.out
                have HVU : Hid (Loc.val n s < Loc.val n (p1 ++ Loc.upS (a + 1) (r.length + 1)) ∧ Loc.val n (p1 ++ Loc.upS (a + 1) (r.length + 1)) < (n + 1) ^ p) := Lib.hid ⟨by
                  rw [HSA.out]
                  exact Loc.val_up (by simp [Loc.upS_length]) has.lt Loc.ltS_next, by
                  have := Loc.val_lt (n := n) HAN.out.lt
                  rwa [HLN.out] at this⟩
                clear hput hrw has hsa hq1 hp1 hqi HP0 HSR HMX HRW2 hroom hl
                go_wp2_with fail
                refine HFO.out.mono ?_
                rintro e w4 ⟨rfl, hr4, hb4⟩
                have HR4 := Lib.hid hr4
                have HI4 := Lib.hid (HI.out _ _ HI2.out (HB3.out.trans hb4))
                have hsz4 : w.heap.size ≤ w4.heap.size := Nat.le_trans hsz3 hb4.size
                have HV4 := Lib.hid hr4.rd
                clear hr4 hb4 HB3 HFO
                go_wp2
                go_roundw
                case rel => exact ⟨p1 ++ Loc.upS (a + 1) (r.length + 1), HAN, HLN, HR4, HI4, hsz4, HTN⟩
                case measure =>
                  rw [HV4.out, HVR.out]
                  have := HVU.out
                  omega
              · have HMX2 : Hid (a :: r = Loc.upS (n - (a :: r).length) (a :: r).length) := Lib.hid (by
                  have h1 := HMX.out
                  rw [List.length_cons, Loc.upS_succ]
                  have h2 : a = n - (r.length + 1) := by rw [hrl]; omega
                  rw [← h2, show a + 1 = n - r.length from by rw [hrl]; omega, ← h1])
                clear hrw has hsa hq1 hp1 hqi HP0 HSR HMX hroom hl
                go_wp2
                go_roundw
                case rel => exact ⟨q, p1, a :: r, by first | rfl | go_num, by omega, HQ1, HSA, HMX2, by first | rfl | trivial⟩
                case measure => simp [intOf]
        · have HFF := Lib.hid (hF rfl)
          clear hF hT
          go_wp2
          try rw [Exit.noGoto_ret]
          refine bodyPost_ret (results_tmp rfl _ _ _) rfl ?_
          exact ⟨true, rfl, HI2.out, fun _ => HFF.out, fun h => by cases h⟩
end Cib
