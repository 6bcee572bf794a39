/- Order: the document's Union. -/
import Derived.Test.YtijinfmokbaahaaUniX
set_option linter.unusedVariables false
set_option linter.unusedSimpArgs false
set_option maxRecDepth 20000
namespace Cib
open Go Go.RowKit Go.Proofs
set_option maxHeartbeats 4000000 in
theorem refUnionAl (w : World) (B n c : Nat) (A : Option Addr) (L : List Sn) (hL : L.length = n) (h : Rd w B A (cellsL L)) (hB : B ≤ w.heap.size) (hn : n ≤ 45) :
    Calls Try.prog 22 #[.slice A n c] w fun e w' =>
      ∃ (A' : Option Addr) (n' c' : Nat), e = .returned (.slice A' n' c') ∧ ∃ O : List Sn, Own w' w.heap.size A' n' c' O ∧ Ord.Canon O ∧ (∀ k, Ord.cov O k = Ord.cov L k) ∧ n' ≤ 200 ∧ Below w.heap.size w w' := by
  have HE := Lib.hid (endsAl w B n c A L hL h hB (by omega))
  have HCV : Hid (∀ (key : ByteArray) (W : World), Below w.heap.size w W → _) := Lib.hid (fun key W (hW : Below w.heap.size w W) => refCoversAl W B n c A L key hL (h.below (hW.mono hB)) (Nat.le_trans hB hW.size) (by omega))
  have HN := Lib.hid hL
  obtain ⟨i0, hi, hz0, hz1', hz2⟩ := info_parts spanInfo3
  have HI := Lib.hid hi
  clear hi h hL hB
  go_enter Try.func22, Try.ntmps22
  go_wp2_with (go_at_call 35; refine HE.out.mono ?_; rintro e w3 ⟨AE, m, cE, rfl, E, hoE, hrise, hb3⟩)
  have hEm : E.length = m := hoE.len
  have HEM := Lib.hid hEm
  have hm200 : m ≤ 100 := by
    have h1 := hrise.len
    rw [Ord.tips_len] at h1
    have := HN.out
    omega
  have HB3 := Lib.hid hb3
  have HRI := Lib.hid hrise
  have HOE := Lib.hid hoE
  have HFL : Hid (Ord.Flat (Ord.cov L) E) := Lib.hid hrise.flat
  clear hEm hb3 hrise hoE HE
  go_loopw [3, 5, 6] (fun x3 x5 x6 wx => ∃ (i k c2 : Nat) (b : Bool) (A2 : Option Addr) (O : List Sn), x6 = .int .i64 i ∧ x5 = .bool b ∧ x3 = .slice A2 k c2 ∧ i ≤ m ∧ Hid (Ord.Scn (Ord.cov L) E i b O) ∧ Hid (Own wx w3.heap.size A2 k c2 O) ∧ Hid (Below w3.heap.size w3 wx)) (fun _ _ x6 _ => m - (Go.RowKit.intOf x6).toNat)
  case atStart => exact ⟨0, 0, 0, false, none, [], rfl, rfl, rfl, Nat.zero_le _, Lib.hid (Ord.Scn.start HRI.out), Lib.hid Own.nil, Lib.hid (Below.refl _ _)⟩
  case round =>
    obtain ⟨i, k, c2, b, A2, O, rfl, rfl, rfl, him, HS, HO, HB⟩ := hrel
    by_cases hlt : i < m
    · have hiE : i < E.length := by rw [HEM.out]; exact hlt
      obtain ⟨gE, rfl, _, hgE3, hdel⟩ := HOE.out.at hiE
      clear hdel
      have HBW : Hid (Below w.heap.size w wr) := Lib.hid (HB3.out.trans (HB.out.mono HB3.out.size))
      have hce : wr.cell? ⟨gE, i, none⟩ = some (.string E[i]) := by
        obtain ⟨g', e, _, _, h1⟩ := (HOE.out.via HB.out).at hiE
        injection e with e
        injection e with e
        subst e
        exact h1
      have HA : Hid (E[i]? = some E[i]) := Lib.hid (List.getElem?_eq_getElem hiE)
      generalize E[i] = a at hce HA
      obtain ⟨R, hR⟩ : ∃ R, Ord.cov L a = R := ⟨_, rfl⟩
      have HC := Lib.hid (HCV.out a wr HBW.out)
      rw [hR] at HC
      have HP := Lib.hid hR
      have hk100 : k ≤ 100 := by
        have h1 := HS.out.len
        have h2 := HO.out.len
        omega
      clear hR hiE
      cases R
      · cases b
        · have HS2 := Lib.hid (HS.out.off HRI.out HFL.out HA.out HP.out)
          clear HS HBW
          go_wp2_with (go_at_call 26; refine HC.out.mono ?_; rintro e w4 ⟨rfl, hb4⟩)
          go_roundw
          case rel => exact ⟨i + 1, k, c2, false, A2, O, by go_num, rfl, rfl, by omega, HS2, Lib.hid (HO.out.via hb4), Lib.hid (HB.out.via hb4)⟩
          case measure => first | (simp [Go.RowKit.intOf]; done) | (simp [Go.RowKit.intOf]; omega)
        · obtain ⟨O', u, hOu, _⟩ := HS.out.opn rfl
          subst hOu
          have HS2 := Lib.hid (HS.out.close HRI.out HFL.out HA.out HP.out)
          obtain ⟨p, hp⟩ : ∃ p, O'.length = p := ⟨_, rfl⟩
          obtain ⟨g2, rfl, hg2, hkp, hl0, hl1, hfz⟩ := HO.out.last hp
          have HPP := Lib.hid hp
          have hk1 : (k : Int) - 1 = (p : Int) := by omega
          have hpk : (p : Int) < (k : Int) := by omega
          have hwp : IntKind.i64.wrap (p : Int) = (p : Int) := by rw [IntKind.wrap_i64]; omega
          have hgw : g2 < wr.heap.size := block_lt_of_cell hl0
          clear HS HBW hp hkp hl0 hl1 hfz
          go_wp2_with (go_at_call 26; refine HC.out.mono ?_; rintro e w4 ⟨rfl, hb4⟩; have ho4 := HO.out.via hb4; have HO4 := Lib.hid ho4; have HB4 := Lib.hid (HB.out.via hb4); have hce4 := (hb4.cell (p := ⟨gE, i, none⟩) (by have := HB.out.size; show gE < wr.heap.size; omega)).trans hce; obtain ⟨g3, e3, hd1, hd2, hl0, hl1, hfz⟩ := ho4.last HPP.out; clear hd1 hd2; injection e3 with e3; injection e3 with e3; subst e3; have hfz1 := hfz (p * 2 + 1); clear ho4 hb4 hfz)
          go_roundw
          case rel => exact ⟨i + 1, k, c2, false, _, _, by go_num, rfl, rfl, by omega, HS2, Lib.hid (HO4.out.put HPP.out a), Lib.hid (HB4.out.setCell hg2 _)⟩
          case measure => first | (simp [Go.RowKit.intOf]; done) | (simp [Go.RowKit.intOf]; omega)
      · cases b
        · have HS2 := Lib.hid (HS.out.new HRI.out HFL.out HA.out HP.out)
          clear HS HBW
          go_wp2_with (first | (go_at_call 26; refine HC.out.mono ?_; rintro e w4 ⟨rfl, hb4⟩; have HO4 := Lib.hid (HO.out.via hb4); have HB4 := Lib.hid (HB.out.via hb4); have hce4 := (hb4.cell (p := ⟨gE, i, none⟩) (by have := HB.out.size; show gE < wr.heap.size; omega)).trans hce; clear hb4) | (at_builtin; go_loud (refine wpList_appN rfl (.tmp 27) (.tmp 33) _ rfl w3.heap.size 2 26 i0 _ 32 Try.underlying32 HI.out hz0 hz1' hz2 rfl (by decide) A2 k c2 (cellsL O) rfl (HO4.out.via ((Below.refl _ _).alloc (Nat.le_refl _) _)) (w4.heap.size + 1) (some ⟨w4.heap.size, 0, none⟩) 1 1 (cellsL [(a, Ord.z)]) rfl rfl (Rd.new w4 #[.string a, .string Ord.z] 26 (0, 0) rfl) cellsL_cell (by unfold maxLen; omega) (by omega) (by have := HB4.out.size; simp; omega) ?_; intro A5 c5 w5 ho5 hg5 hb5)))
          go_roundw
          case rel => exact ⟨i + 1, k + 1, c5, true, A5, O ++ [(a, Ord.z)], by go_num, rfl, rfl, by omega, HS2, Lib.hid (by unfold Own; rw [cellsL_app]; exact ho5), Lib.hid ((HB4.out.alloc HB4.out.size _).trans hb5)⟩
          case measure => first | (simp [Go.RowKit.intOf]; done) | (simp [Go.RowKit.intOf]; omega)
        · have HS2 := Lib.hid (HS.out.keep HRI.out HFL.out HA.out HP.out)
          clear HS HBW
          go_wp2_with (go_at_call 26; refine HC.out.mono ?_; rintro e w4 ⟨rfl, hb4⟩)
          go_roundw
          case rel => exact ⟨i + 1, k, c2, true, A2, O, by go_num, rfl, rfl, by omega, HS2, Lib.hid (HO.out.via hb4), Lib.hid (HB.out.via hb4)⟩
          case measure => first | (simp [Go.RowKit.intOf]; done) | (simp [Go.RowKit.intOf]; omega)
    · have HR : Hid (Own wr w.heap.size A2 k c2 O ∧ Ord.Canon O ∧ (∀ k, Ord.cov O k = Ord.cov L k) ∧ k ≤ 200 ∧ Below w.heap.size w wr) := Lib.hid (by
        have e : i = E.length := by rw [HEM.out]; omega
        have hs := HS.out
        have h1 := hs.len
        have h2 := HO.out.len
        rw [e] at hs
        exact ⟨HO.out.lower HB3.out.size, hs.done.1, hs.done.2, by omega, HB3.out.trans (HB.out.mono HB3.out.size)⟩)
      clear HS HO HB
      go_wp2
      go_ret
      exact ⟨A2, k, c2, rfl, O, HR.out⟩
end Cib
