/- Find and Close. -/
import Derived.Test.YthlpcghoijgeiaaLocC
set_option linter.unusedVariables false
set_option linter.unusedSimpArgs false
set_option maxRecDepth 40000
namespace Loc
open Cib
theorem dif_mem {a b : List (List UInt8)} {p i : Nat} : i ∈ dif a b p ↔ i < p ∧ sameB a b i = false := by simp [dif]
theorem dif_asc (a b : List (List UInt8)) (p : Nat) : Asc p 0 (dif a b p) := asc_of (List.Pairwise.filter _ List.pairwise_lt_range) fun u hu => ⟨Nat.zero_le _, (dif_mem.1 hu).1⟩
theorem dif_nodup (a b : List (List UInt8)) (p : Nat) : (dif a b p).Nodup := List.nodup_range.filter _
/-- Unlike only where a set says: no more than the set has. -/
theorem dif_few {a b : List (List UInt8)} {n : Nat} {s : List Nat} (h : ∀ i, i < n → i ∉ s → sameB a b i = true) : (dif a b n).length ≤ s.length := by
  have h1 := drop_len (dif_nodup a b n) s
  have h2 : (dif a b n).filter (fun t => !s.contains t) = [] := by
    rw [List.filter_eq_nil_iff]
    intro t ht
    have h3 := dif_mem.1 ht
    intro h4
    have h5 : t ∉ s := by simpa using h4
    rw [h t h3.1 h5] at h3
    cases h3.2
  rw [h2] at h1
  simpa using h1
theorem same_of {a b : List (List UInt8)} {n i : Nat} (ha : a.length = n) (hb : b.length = n) (hi : i < n) : sameB a b i = true ↔ a.getD i [] = b.getD i [] := by
  unfold sameB
  rw [decide_eq_true (by omega), decide_eq_true (by omega)]
  simp
theorem shards_at (k : Nat) (D : List (List UInt8)) {n j : Nat} (h : j < n) : (Cod.shards k D n).getD j [] = Cod.shard k D j := by simp [Cod.shards, List.getD, h]
theorem fits_few {k W n : Nat} {L : List (List UInt8)} {s : List Nat} {D : List (List UInt8)} (hL : L.length = n) (h : Fits k W n L s D) : (dif (Cod.shards k D n) L n).length ≤ s.length :=
  dif_few fun i hi his => (same_of (Cod.shards_length _ _ _) hL hi).2 (by rw [h.2.2 i hi his, shards_at k D hi])
theorem few_fits {k W n : Nat} {L : List (List UInt8)} {D : List (List UInt8)} (hL : L.length = n) (hD : D.length = k) (hw : ∀ r ∈ D, r.length = W) : Fits k W n L (dif (Cod.shards k D n) L n) D :=
  ⟨hD, hw, fun i hi his => by
    have h1 : sameB (Cod.shards k D n) L i = true := by
      cases h : sameB (Cod.shards k D n) L i
      · exact absurd (dif_mem.2 ⟨hi, h⟩) his
      · rfl
    rw [← (same_of (Cod.shards_length _ _ _) hL hi).1 h1, shards_at k D hi]⟩
end Loc
namespace Cib
open Go Go.RowKit Go.Proofs
/-- What Find answers. -/
def FindR (w : World) (k Wd n most : Nat) (D0 : List (List UInt8)) (e : Ending) (w' : World) : Prop :=
  Below w.heap.size w w' ∧ ((∃ A' c' M D Ad qd cd, e = .returned (.tuple #[.slice A' n c', .slice Ad qd cd, .int .i64 0]) ∧ M.length = n ∧ n ≤ c' ∧ c' ≤ maxLen ∧ Rd w' w'.heap.size A' (M.map RowB.v) ∧ RowsAt w' w'.heap.size M ∧ D.length = k ∧ (∀ r ∈ D, r.length = Wd) ∧ bss M = Cod.shards k D n ∧ (Loc.dif (Cod.shards k D n) D0 n).length = qd ∧ qd ≤ most ∧ Rd w' w'.heap.size Ad ((Loc.dif (Cod.shards k D n) D0 n).map iv)) ∨
    (e = .returned (.tuple #[.slice none 0 0, .slice none 0 0, .int .i64 80]) ∧ ∀ D, D.length = k → (∀ r ∈ D, r.length = Wd) → most < (Loc.dif (Cod.shards k D n) D0 n).length))
set_option maxHeartbeats 1000000 in
theorem locFind {w : World} {g gf k m c : Nat} {A : Option Addr} (h : Cdr w g gf k m A c) (L : List RowB) (B : Nat) (Al : Option Addr) (n cl : Nat) (hrl : Rd w B Al (L.map RowB.v)) (hR : RowsAt w B L) (hB : B ≤ w.heap.size) (hl : L.length = n) (hn : n = k + m) (hcl : n ≤ cl) (hclm : cl ≤ maxLen) (Wd : Nat) (hW : 0 < Wd) (hW2 : Wd ≤ 1000000000) (hLW : ∀ r ∈ L, r.n = Wd)
    (most : Nat) (h16 : k + m ≤ 16) (h2 : most ≤ 2) (hm2 : 2 * most ≤ m) :
    Calls Try.prog 14 #[.pointer (some ⟨g, 0, none⟩), .slice Al n cl, .int .i64 (most : Int)] w (FindR w k Wd n most (bss L)) := by
  have hn255 : n ≤ 16 := by omega
  have hk1 := h.hk
  have hnk : (n : Int) = (k : Int) + (m : Int) := by omega
  have hn0 : ((n : Int) == 0) = false := by simp; omega
  have hn1 : 0 < n := by omega
  have hd1 : Below w.heap.size w w.drew := below_drewN (Below.refl _ _) 1
  have HN : Hid (Calls Try.prog 23 #[.pointer (some ⟨g, 0, none⟩)] w fun e w' => e = .returned (.int .i64 (n : Int)) ∧ w' = w.drew) := Lib.hid (by rw [hnk]; exact cdN h)
  have HM : Hid (Calls Try.prog 24 #[.pointer (some ⟨g, 0, none⟩), .slice Al n cl, .int .i64 (most : Int)] w.drew fun e w' => e = .returned (.bool true) ∧ Below w.drew.heap.size w.drew w') := Lib.hid (locMay (h.drewN 1) L B Al n cl (hrl.drewN 1) hl hB hn Wd hLW most h16 h2 hm2)
  have HSE := Lib.hid fun W (hW0 : Below w.heap.size w W) => locSearch (h.below hW0) L B Al n cl (hrl.below (hW0.mono hB)) (fun r hr => (hR r hr).below (hW0.mono hB)) (Nat.le_trans hB hW0.size) hl hn hcl hclm Wd hW hW2 hLW most (by omega)
  have h0l : 0 < L.length := by omega
  obtain ⟨al, rfl, hab, hc0⟩ := hrl.row h0l
  rw [addr_add_zero, hLW _ (List.getElem_mem h0l)] at hc0
  have HC0 := Lib.hid fun W (hW0 : Below w.heap.size w W) => (hW0.cell (p := al) (Nat.lt_of_lt_of_le hab hB)).trans hc0
  generalize L[0].A = a0 at hc0 HC0
  generalize L[0].c = c0 at hc0 HC0
  have hw0 : ((Wd : Int) == 0) = false := by simp; omega
  have HD := Lib.hid hd1
  have HRL := Lib.hid hrl
  have HRR := Lib.hid hR
  have HL := Lib.hid hl
  clear h hrl hR hl hn hLW hnk hd1 h0l hab hc0
  go_enter Try.func14, Try.ntmps14
  go_wp2_with fail
  refine HN.out.mono ?_
  rintro e w1 ⟨rfl, rfl⟩
  go_wp2_with fail
  refine HM.out.mono ?_
  rintro e w2 ⟨rfl, hb2⟩
  have HB2 := Lib.hid (HD.out.via hb2)
  have hc0 := HC0.out _ HB2.out
  clear hb2 HN HM HC0
  go_wp2_with fail
  refine (HSE.out _ HB2.out).mono ?_
  rintro e w3 ⟨hb3, hsr⟩
  have HB3 := Lib.hid (HB2.out.via hb3)
  clear hb3 HSE hc0
  rcases hsr with ⟨A3, c3, M, s, D, rfl, hM, ho3, hr3, hsl, hf, hMD⟩ | ⟨rfl, hno⟩
  · have hcp := own_cap ho3
    have HDF := Lib.hid (locDiffer M L w3.heap.size A3 (some al) n c3 n cl w3 (Rd.of_own ho3) hr3.at ((HRL.out.below (HB3.out.mono hB)).more (Nat.le_trans hB HB3.out.size)) (fun r hr => ((HRR.out r hr).below (HB3.out.mono hB)).more (Nat.le_trans hB HB3.out.size)) hM HL.out (Nat.le_refl _) (by omega) (by omega))
    rw [Nat.max_self] at HDF
    have HFIN : Hid (∀ Ad qd cd W, (Loc.dif (bss M) (bss L) n).length = qd → W.ownsRow w3.heap.size 3 1 (.slice Ad qd cd) qd ((Loc.dif (bss M) (bss L) n).map iv) → Below w3.heap.size w3 W → FindR w k Wd n most (bss L) (.returned (.tuple #[.slice A3 n c3, .slice Ad qd cd, .int .i64 0])) W) := Lib.hid fun Ad qd cd W hq ho hb => by
      have hs := Loc.fits_few (by rw [bss_length]; exact HL.out) hf
      rw [← hMD, hq] at hs
      refine ⟨HB3.out.via hb, .inl ⟨A3, c3, M, D, Ad, qd, cd, rfl, hM, hcp.1, hcp.2, Rd.of_own (own_via ho3 hb), (hr3.below hb).at, hf.1, hf.2.1, hMD, by rw [← hMD]; exact hq, by omega, by rw [← hMD]; exact Rd.of_own ho⟩⟩
    clear hM ho3 hr3 hsl hf hMD hcp
    go_wp2_with fail
    refine HDF.out.mono ?_
    rintro e w4 ⟨Ad, qd, cd, rfl, hq, ho4, hb4⟩
    have HF4 := Lib.hid (HFIN.out Ad qd cd w4 hq ho4 hb4)
    clear hq ho4 hb4 HFIN HDF
    go_wp2
    first | go_ret3 | (refine bodyPost_ret (results_tmp3 rfl _ _ _) rfl ?_) | go_ret
    exact HF4.out
  · have HFIN : Hid (FindR w k Wd n most (bss L) (.returned (.tuple #[.slice none 0 0, .slice none 0 0, .int .i64 80])) w3) := Lib.hid ⟨HB3.out, .inr ⟨rfl, fun D hD hDw => by
      have hf := Loc.few_fits (W := Wd) (n := n) (L := bss L) (by rw [bss_length]; exact HL.out) hD hDw
      have := hno _ (Loc.dif_asc (Cod.shards k D n) (bss L) n)
      by_cases hle : (Loc.dif (Cod.shards k D n) (bss L) n).length ≤ most
      · exact absurd hf (this hle D)
      · omega⟩⟩
    clear hno
    go_wp2
    first | go_ret3 | (refine bodyPost_ret (results_tmp3 rfl _ _ _) rfl ?_) | go_ret
    exact HFIN.out
theorem locFindNil (Al : Option Addr) (n cl : Nat) (most : Int) (w : World) : Calls Try.prog 14 #[.pointer none, .slice Al n cl, .int .i64 most] w fun e w' => e = .returned (.tuple #[.slice none 0 0, .slice none 0 0, .int .i64 1]) ∧ Below w.heap.size w w' := by
  have HN := Lib.hid (cdN0 w)
  go_enter Try.func14, Try.ntmps14
  go_wp2_with (go_at_call 23; refine HN.out.mono ?_; rintro e w' ⟨rfl, rfl⟩)
  first | (refine bodyPost_ret (results_tmp3 rfl _ _ _) rfl ?_) | go_ret
  exact ⟨rfl, Below.refl _ _⟩
theorem locFindNo {w : World} {g gf k m c : Nat} {A : Option Addr} (h : Cdr w g gf k m A c) (Al : Option Addr) (n cl : Nat) (most : Nat) (hmo : most ≤ 1000) (hno : 16 < k + m ∨ 2 < most ∨ m < 2 * most) :
    Calls Try.prog 14 #[.pointer (some ⟨g, 0, none⟩), .slice Al n cl, .int .i64 (most : Int)] w fun e w' => e = .returned (.tuple #[.slice none 0 0, .slice none 0 0, .int .i64 2]) ∧ Below w.heap.size w w' := by
  have hk1 := h.hk
  have hs := h.hs
  have hne : ((k : Int) + (m : Int) == 0) = false := by simp; omega
  have HN := Lib.hid (cdN h)
  have HM : Hid (Calls Try.prog 24 #[.pointer (some ⟨g, 0, none⟩), .slice Al n cl, .int .i64 (most : Int)] w.drew fun e w' => e = .returned (.bool false) ∧ Below w.drew.heap.size w.drew w') := Lib.hid (locMayNo (h.drewN 1) Al n cl most hmo hno)
  have HD := Lib.hid (below_drewN (Below.refl w.heap.size w) 1)
  clear h hno
  go_enter Try.func14, Try.ntmps14
  go_wp2_with (first | (go_at_call 23; refine HN.out.mono ?_; rintro e w' ⟨rfl, rfl⟩) | (go_at_call 24; refine HM.out.mono ?_; rintro e w2 ⟨rfl, hb2⟩))
  first | (refine bodyPost_ret (results_tmp3 rfl _ _ _) rfl ?_) | go_ret
  exact ⟨rfl, HD.out.via hb2⟩
/-- What Close answers of what Find answers. -/
theorem locClose (p : Value) (Al : Option Addr) (n cl : Nat) (most r : Int) (w : World)
    (H : Calls Try.prog 14 #[p, .slice Al n cl, .int .i64 most] w fun e w' => ∃ A1 n1 c1 Ad qd cd err, e = .returned (.tuple #[.slice A1 n1 c1, .slice Ad qd cd, .int .i64 err]) ∧ Below w.heap.size w w' ∧ ((err = 0 ∧ r = (qd : Int)) ∨ ((err != 0) = true ∧ r = -1))) :
    Calls Try.prog 15 #[p, .slice Al n cl, .int .i64 most] w fun e w' => e = .returned (.int .i64 r) ∧ Below w.heap.size w w' := by
  have HH := Lib.hid H
  clear H
  go_enter Try.func15, Try.ntmps15
  go_wp2_with fail
  refine HH.out.mono ?_
  rintro e w2 ⟨A1, n1, c1, Ad, qd, cd, err, rfl, hb2, hr⟩
  have HB2 := Lib.hid hb2
  clear hb2 HH
  rcases hr with ⟨rfl, rfl⟩ | ⟨he, rfl⟩
  · go_wp2
    go_ret
    exact ⟨rfl, HB2.out⟩
  · go_wp2
    go_ret
    exact ⟨rfl, HB2.out⟩
/-- Two lists of data whose shards are both near some rows are the same. -/
theorem near_one {k m Wd n most : Nat} (h0 : 0 < k) (hs : k + m ≤ 255) (hn : n = k + m) (h2 : 2 * most ≤ m) {D0 D E : List (List UInt8)} (hL : D0.length = n) (hD : D.length = k) (hE : E.length = k) (hDw : ∀ r ∈ D, r.length = Wd) (hEw : ∀ r ∈ E, r.length = Wd)
    (h1 : (Loc.dif (Cod.shards k D n) D0 n).length ≤ most) (h3 : (Loc.dif (Cod.shards k E n) D0 n).length ≤ most) : D = E := by
  refine Loc.nearSame h0 hs hD hE hDw hEw (Loc.dif (Cod.shards k D n) D0 n ++ Loc.dif (Cod.shards k E n) D0 n) (by rw [List.length_append]; omega) (fun i hi hni => ?_)
  rw [List.mem_append, not_or] at hni
  rw [← hn] at hi
  have e1 := (Loc.few_fits (W := Wd) hL hD hDw).2.2 i hi hni.1
  have e2 := (Loc.few_fits (W := Wd) hL hE hEw).2.2 i hi hni.2
  rw [← e1, ← e2]
end Cib
