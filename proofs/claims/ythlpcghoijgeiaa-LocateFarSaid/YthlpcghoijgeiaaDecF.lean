/- Rows that are missing made anew. -/
import Derived.Test.YthlpcghoijgeiaaDecH
set_option linter.unusedVariables false
set_option linter.unusedSimpArgs false
set_option maxRecDepth 40000
namespace Cib
open Go Go.RowKit Go.Proofs
/-- What comes for a row: itself, or, where it is missing, what it must be if all hold. -/
def Good (k W : Nat) (us : List Nat) (D0 : List (List UInt8)) (i : Nat) (r : List UInt8) : Prop :=
  r.length = W ∧ (0 < (D0.getD i []).length → r = D0.getD i []) ∧ ((D0.getD i []).length = 0 → ∀ D : List (List UInt8), D.length = k → (∀ x ∈ D, x.length = W) → (∀ j, j < k → D0.getD (us.getD j 0) [] = Cod.shard k D (us.getD j 0)) → r = Cod.shard k D i)
/-- filled under way. -/
structure FilI (w : World) (gO n p : Nat) (M : List RowB) (wr : World) : Prop where
  len : M.length = p
  own : wr.ownsRow w.heap.size 22 1 (.slice (some ⟨gO, 0, none⟩) n n) n (M.map RowB.v ++ List.replicate (n - p) (.slice none 0 0))
  rows : RowsNew wr w.heap.size M
  below : Below w.heap.size w wr
  at_ : w.heap.size ≤ gO
theorem FilI.cells {w wr w2 : World} {gO n p : Nat} {M : List RowB} (h : FilI w gO n p M wr) (hp : p < n) (hb : Below wr.heap.size wr w2) :
    (∃ v, w2.cell? ⟨gO, p, none⟩ = some v) ∧ w2.frozen? ⟨gO, p, none⟩ = false := by
  have ho := own_via h.own hb
  refine ⟨?_, ho.frozenAt p⟩
  have hl : (M.map RowB.v ++ List.replicate (n - p) (Value.slice none 0 0)).length = n := by
    have := h.len
    simp
    omega
  exact ⟨_, (ho.cellAt p (by omega)).trans (List.getElem?_eq_getElem (by rw [hl]; exact hp))⟩
theorem FilI.push {w wr w2 : World} {gO n p : Nat} {M : List RowB} (h : FilI w gO n p M wr) (hp : p < n) (hb : Below wr.heap.size wr w2) {r : RowB}
    (ho : w2.ownsRow wr.heap.size 5 1 (.slice r.A r.n r.c) r.n (r.bs.map bv)) : FilI w gO n (p + 1) (M ++ [r]) (w2.setCell ⟨gO, p, none⟩ r.v) where
  len := by rw [List.length_append, h.len]; rfl
  own := by
    have h1 := (World.ownsRow.stored (own_via h.own hb) p r.v).1
    have e : (M.map RowB.v ++ List.replicate (n - p) (Value.slice none 0 0)).set p r.v = (M ++ [r]).map RowB.v ++ List.replicate (n - (p + 1)) (Value.slice none 0 0) := by
      have hl := h.len
      rw [List.set_append_right _ _ (by simp; omega), show n - p = (n - (p + 1)) + 1 from by omega, List.replicate_succ]
      simp [hl]
    rw [e] at h1
    exact h1
  rows := (h.rows.push hb h.below.size ho).setCell (own_block (own_via h.own hb)) rowNe _
  below := (h.below.via hb).setCell h.at_ _
  at_ := h.at_
/-- What All answers. -/
def FilR (k n W : Nat) (us : List Nat) (D0 : List (List UInt8)) (w : World) (e : Ending) (w' : World) : Prop :=
  ∃ A' c' M, e = .returned (.tuple #[.slice A' n c', .int .i64 0]) ∧ M.length = n ∧ w'.ownsRow w.heap.size 22 1 (.slice A' n c') n (M.map RowB.v) ∧ RowsNew w' w.heap.size M ∧ Below w.heap.size w w' ∧ ∀ i, i < n → Good k W us D0 i ((bss M).getD i [])
theorem hav_use {D : List (List UInt8)} {k m n : Nat} (hn : n = k + m) (hk : k ≤ (hav D n).length) : Use k m ((hav D n).take k) where
  len := by rw [List.length_take]; omega
  lt := fun u hu => by
    have := (hav_mem.1 (List.mem_of_mem_take hu)).1
    omega
  up := (hav_up D n).sublist (List.take_sublist _ _)
theorem use_there {D : List (List UInt8)} {k n j : Nat} (hk : k ≤ (hav D n).length) (hj : j < k) : 0 < (D.getD (((hav D n).take k).getD j 0) []).length := by
  have hj' : j < ((hav D n).take k).length := by rw [List.length_take]; omega
  have hm := hav_mem.1 (List.mem_of_mem_take (List.getElem_mem hj'))
  have e : ((hav D n).take k).getD j 0 = ((hav D n).take k)[j] := by rw [List.getD_eq_getElem?_getD, List.getElem?_eq_getElem hj', Option.getD_some]
  rw [e]
  exact hm.2
set_option maxHeartbeats 4000000 in
theorem decFilled {w : World} {g gf k m c : Nat} {A : Option Addr} (h : Cdr w g gf k m A c) (L : List RowB) (B : Nat) (Al : Option Addr) (n cl : Nat) (hrl : Rd w B Al (L.map RowB.v)) (hR : RowsAt w B L) (hB : B ≤ w.heap.size) (hl : L.length = n) (hn : n = k + m) (W : Nat) (hW : 0 < W) (hW2 : W ≤ 1000000000) (hLW : ∀ r ∈ L, r.n = 0 ∨ r.n = W) (hk : k ≤ (hav (bss L) n).length) :
    Calls Try.prog 62 #[.pointer (some ⟨g, 0, none⟩), .slice Al n cl, .func (.func 23) #[.pointer (some ⟨g, 0, none⟩)] #[]] w (FilR k n W ((hav (bss L) n).take k) (bss L) w) := by
  have hk1 := h.hk
  have hs := h.hs
  have hn255 : n ≤ 255 := by omega
  have hnk : (n : Int) = (k : Int) + (m : Int) := by omega
  have hkn : k ≤ n := by omega
  obtain ⟨nh, hnh⟩ : ∃ nh, (hav (bss L) n).length = nh := ⟨_, rfl⟩
  rw [hnh] at hk
  have HT := Lib.hid (decThere h L B Al n cl hrl hR hB hl hn W hW hLW nh hnh hk)
  have HU := Lib.hid (hav_use (D := bss L) hn (by rw [hnh]; exact hk))
  have HUT := Lib.hid (fun j (hj : j < k) => use_there (D := bss L) (n := n) (by rw [hnh]; exact hk) hj)
  obtain ⟨us, hus⟩ : ∃ us, (hav (bss L) n).take k = us := ⟨_, rfl⟩
  have HUS : Hid ((((hav (bss L) n).map iv).take k) = us.map iv) := Lib.hid (by rw [← List.map_take, hus])
  rw [hus] at HU HUT ⊢
  have HC := Lib.hid h
  have HRL := Lib.hid hrl
  have HRR := Lib.hid hR
  have HL := Lib.hid hl
  have HLW := Lib.hid hLW
  have HNK := Lib.hid hn
  have HN : Hid (∀ V, Below w.heap.size w V → Calls Try.prog 23 #[.pointer (some ⟨g, 0, none⟩)] V fun e w' => e = .returned (.int .i64 (n : Int)) ∧ w' = V.drew) := Lib.hid fun V hV => by rw [hnk]; exact cdN (h.below hV)
  have HKK : Hid (∀ V, Below w.heap.size w V → Calls Try.prog 42 #[.pointer (some ⟨g, 0, none⟩)] V fun e w' => e = .returned (.int .i64 (k : Int)) ∧ w' = V) := Lib.hid fun V hV => cdK (h.below hV)
  have hmk := makeR n n (Nat.le_refl _) (by omega)
  clear h hrl hR hl hLW hnk hn hnh hus
  go_enter Try.func62, Try.ntmps62
  go_wp2_with fail
  refine HT.out.mono ?_
  rintro e w1 ⟨Ah, ch, rfl, hoh, hbh⟩
  have HOH := Lib.hid hoh
  have HB1 := Lib.hid hbh
  have hch := own_cap hoh
  have hkch : k ≤ ch := by have := hch.1; omega
  have hsl := fun V : World => run_cut_to (P := Try.prog) 34 3 Try.underlying34 sizeInt Ah nh ch k .i64 hkch V
  clear hoh hbh hch HT
  go_wp2_with fail
  refine (HKK.out _ HB1.out).mono ?_
  rintro e w2 ⟨rfl, rfl⟩
  go_wp2_with (go_at_call 23; refine (HN.out _ HB1.out).mono ?_; rintro e w3 ⟨rfl, rfl⟩)
  have hz1 := HB1.out.size
  go_loopw [12, 13, 14, 33] (fun _ _ _ i wr => ∃ (p : Nat) (M : List RowB), i = .int .i64 p ∧ p ≤ n ∧ Hid (FilI w w2.heap.size n p M wr) ∧ Hid (Below w2.heap.size w2 wr) ∧ Hid (∀ i, i < p → Good k W us (bss L) i ((bss M).getD i []))) (fun _ _ _ i _ => n - (intOf i).toNat)
  case atStart =>
    have hbl : Below w2.heap.size w2 (w2.drew.alloc (.cells (madeCells #[.slice none 0 0] n) 22)) := (below_drewN (Below.refl _ _) 1).alloc (Nat.le_refl _) _
    refine ⟨0, [], rfl, Nat.zero_le _, Lib.hid ⟨rfl, ?_, RowsNew.nil, HB1.out.via hbl, hz1⟩, Lib.hid hbl, Lib.hid fun i hi => by omega⟩
    have h5 := own_made w2.drew w.heap.size 22 (.slice none 0 0) n n hz1 (Nat.le_refl _) (by unfold maxLen; omega)
    rw [List.map_nil, List.nil_append, Nat.sub_zero]
    exact h5
  case round =>
    clear HKK HN hsl hmk
    obtain ⟨p, M, rfl, hp, HI, HBR, HG⟩ := hrel
    by_cases hlt : p < n
    · have hpl : p < L.length := by rw [HL.out]; exact hlt
      obtain ⟨ad, rfl, hab, hcell⟩ := (HRL.out.below (HI.out.below.mono hB)).row hpl
      have hr := HRR.out.get hpl
      have hD : Hid ((bss L).getD p [] = L[p].bs) := (show _ = _ from bss_get hpl)
      have hlw := HLW.out _ (List.getElem_mem hpl)
      obtain ⟨r, hre⟩ : ∃ r, L[p] = r := ⟨_, rfl⟩
      rw [hre] at hcell hr hD hlw
      have HRA := Lib.hid hr
      clear hr hre hpl
      obtain ⟨rA, rn, rc, rbs⟩ := r
      simp only at hcell hlw hD
      have hsz := HI.out.below.size
      have HML := Lib.hid HI.out.len
      rcases hlw with hr0 | rfl
      · subst hr0
        have hpI : p < k + m := by rw [← HNK.out]; exact hlt
        have HRU : Hid (∀ V, Below w2.heap.size w2 V → Rd V V.heap.size Ah (us.map iv)) := Lib.hid fun V hV => by
          have h1 := (Rd.of_own (own_via HOH.out hV)).take k
          rw [HUS.out] at h1
          exact h1
        have HPL := Lib.hid (decPlan (HC.out.below HI.out.below) us HU.out Ah ch wr.heap.size (HRU.out _ HBR.out) (Nat.le_refl _) p hpI)
        go_wp2_with fail
        refine HPL.out.mono ?_
        rintro e w3 ⟨X, A3, c3, rfl, hX, ho3, hb3⟩
        have HW3 := Lib.hid (HI.out.below.via hb3)
        have HLU : Hid (∀ j, j < k → ((bss L).getD (us.getD j 0) []).length = W) := Lib.hid fun j hj => by
          have h1 := HUT.out j hj
          have hu := HU.out.u_lt hj
          have hul : us.getD j 0 < L.length := by rw [HL.out, HNK.out]; exact hu
          rw [bss_get hul] at h1 ⊢
          have h2 := (HRR.out.get hul).len
          rcases HLW.out _ (List.getElem_mem hul) with h3 | h3
          · omega
          · omega
        have HMD := Lib.hid (decMade (HC.out.below HW3.out) us HU.out Ah ch w3.heap.size (HRU.out _ (HBR.out.via hb3)) L (some ad) cl ((HRL.out.below (HW3.out.mono hB)).more (Nat.le_trans hB HW3.out.size)) (fun r hr => ((HRR.out r hr).below (HW3.out.mono hB)).more (Nat.le_trans hB HW3.out.size)) (by rw [HL.out, HNK.out]) W HLU.out hW2 A3 c3 (Lin.mulL 1 k k (Cod.facRow k p) X) (Rd.of_own ho3) (by rw [Lin.mulL_length, Nat.one_mul]) (Nat.le_refl _))
        rw [← HNK.out] at HMD
        have HX := Lib.hid hX
        have HB3 := Lib.hid hb3
        clear hX ho3 hb3 HPL
        go_wp2_with fail
        refine HMD.out.mono ?_
        rintro e w4 ⟨A4, n4, c4, rfl, hn4, ho4, hb4⟩
        have HB4 := Lib.hid (HB3.out.via hb4)
        obtain ⟨⟨vq, hcq⟩, hfq⟩ := HI.out.cells hlt HB4.out
        obtain rfl : n4 = W := by rw [← hn4, Cod.sumTo_length]
        have HPU := Lib.hid (HI.out.push (r := ⟨A4, n4, c4, Cod.sumTo (Lin.mulL 1 k k (Cod.facRow k p) X) (rowsU (bss L) us) n4 k⟩) hlt HB4.out (own_lowerB ho4 HB3.out.size))
        have HBR2 := Lib.hid ((HBR.out.via HB4.out).setCell (p := ⟨w2.heap.size, p, none⟩) (Nat.le_refl _) (.slice A4 n4 c4))
        have HG2 : Hid (∀ i, i < p + 1 → Good k n4 us (bss L) i ((bss (M ++ [(⟨A4, n4, c4, Cod.sumTo (Lin.mulL 1 k k (Cod.facRow k p) X) (rowsU (bss L) us) n4 k⟩ : RowB)])).getD i [])) := Lib.hid fun i hi => by
          by_cases hip : i < p
          · have := HG.out i hip
            unfold bss at this ⊢
            rw [List.map_append, List.getD_eq_getElem?_getD, List.getElem?_append_left (by rw [List.length_map, HML.out]; exact hip), ← List.getD_eq_getElem?_getD]
            exact this
          · obtain rfl : i = p := by omega
            have e : (bss (M ++ [(⟨A4, n4, c4, Cod.sumTo (Lin.mulL 1 k k (Cod.facRow k i) X) (rowsU (bss L) us) n4 k⟩ : RowB)])).getD i [] = Cod.sumTo (Lin.mulL 1 k k (Cod.facRow k i) X) (rowsU (bss L) us) n4 k := by
              unfold bss
              rw [List.map_append, List.getD_eq_getElem?_getD, List.getElem?_append_right (by rw [List.length_map, HML.out]; exact Nat.le_refl _), List.length_map, HML.out, Nat.sub_self]
              rfl
            rw [e]
            refine ⟨Cod.sumTo_length _ _ _ _, fun h1 => ?_, fun _ D hD hDw hfit => ?_⟩
            · have h3 := HRA.out.len
              simp only at h3
              rw [hD.out] at h1
              omega
            · refine Loc.rebuilt (u := fun j => us.getD j 0) (M := mtx k us) i (fun j t hj ht => mtx_fl (by rw [HU.out.len]; exact hj) ht) HX.out hk1 hD hDw (fun j hj => ?_)
              rw [rowsU_get (by rw [HU.out.len]; exact hj)]
              exact hfit j hj
        clear HMD HX hn4 ho4 hb4
        go_wp2
        go_roundw
        case rel => exact ⟨p + 1, M ++ [⟨A4, n4, c4, Cod.sumTo (Lin.mulL 1 k k (Cod.facRow k p) X) (rowsU (bss L) us) n4 k⟩], by go_num, hlt, HPU, HBR2, HG2⟩
        case measure => simp [intOf]; omega
      · have HCL := Lib.hid (byClone rA rn rc B rbs HRA.out.len hW (by omega) wr (HRA.out.rd.below (HI.out.below.mono hB)) (Nat.le_trans hB hsz))
        go_wp2_with fail
        refine HCL.out.mono ?_
        rintro e w4 ⟨A4, n4, c4, rfl, hn4, ho4, hb4⟩
        have HB4 := Lib.hid hb4
        obtain ⟨⟨vq, hcq⟩, hfq⟩ := HI.out.cells hlt HB4.out
        have hlen := HRA.out.len
        simp only at hlen
        obtain rfl : n4 = rn := by rw [← hn4, hlen]
        have HPU := Lib.hid (HI.out.push (r := ⟨A4, n4, c4, rbs⟩) hlt HB4.out ho4)
        have HBR2 := Lib.hid ((HBR.out.via HB4.out).setCell (p := ⟨w2.heap.size, p, none⟩) (Nat.le_refl _) (.slice A4 n4 c4))
        have HG2 : Hid (∀ i, i < p + 1 → Good k n4 us (bss L) i ((bss (M ++ [(⟨A4, n4, c4, rbs⟩ : RowB)])).getD i [])) := Lib.hid fun i hi => by
          by_cases hip : i < p
          · have := HG.out i hip
            unfold bss at this ⊢
            rw [List.map_append, List.getD_eq_getElem?_getD, List.getElem?_append_left (by rw [List.length_map, HML.out]; exact hip), ← List.getD_eq_getElem?_getD]
            exact this
          · obtain rfl : i = p := by omega
            have e : (bss (M ++ [(⟨A4, n4, c4, rbs⟩ : RowB)])).getD i [] = rbs := by
              unfold bss
              rw [List.map_append, List.getD_eq_getElem?_getD, List.getElem?_append_right (by rw [List.length_map, HML.out]; exact Nat.le_refl _), List.length_map, HML.out, Nat.sub_self]
              rfl
            rw [e]
            refine ⟨hlen, fun _ => hD.out.symm, fun h1 => ?_⟩
            rw [hD.out] at h1
            omega
        clear HCL hn4 ho4 hb4 hlen
        go_wp2
        go_roundw
        case rel => exact ⟨p + 1, M ++ [⟨A4, n4, c4, rbs⟩], by go_num, hlt, HPU, HBR2, HG2⟩
        case measure => simp [intOf]; omega
    · obtain rfl : p = n := by omega
      have ho := HI.out.own
      rw [Nat.sub_self, List.replicate_zero, List.append_nil] at ho
      have HO := Lib.hid ho
      clear ho
      go_wp2
      first | go_ret2 | go_ret
      exact ⟨some ⟨w2.heap.size, 0, none⟩, p, M, rfl, HI.out.len, HO.out, HI.out.rows, HI.out.below, HG.out⟩
theorem decAll {w : World} {g gf k m c : Nat} {A : Option Addr} (h : Cdr w g gf k m A c) (L : List RowB) (B : Nat) (Al : Option Addr) (n cl : Nat) (hrl : Rd w B Al (L.map RowB.v)) (hR : RowsAt w B L) (hB : B ≤ w.heap.size) (hl : L.length = n) (hn : n = k + m) (W : Nat) (hW : 0 < W) (hW2 : W ≤ 1000000000) (hLW : ∀ r ∈ L, r.n = 0 ∨ r.n = W) (hk : k ≤ (hav (bss L) n).length) :
    Calls Try.prog 54 #[.pointer (some ⟨g, 0, none⟩), .slice Al n cl] w (FilR k n W ((hav (bss L) n).take k) (bss L) w) := by
  have HF := Lib.hid (decFilled h L B Al n cl hrl hR hB hl hn W hW hW2 hLW hk)
  clear h hrl hR hl hn hLW hk
  unfold FilR at HF ⊢
  go_enter Try.func54, Try.ntmps54
  go_wp2_with fail
  refine HF.out.mono ?_
  rintro e w1 ⟨A1, c1, M, rfl, h1, h2, h3, h4, h5⟩
  clear HF
  go_wp2
  first | go_ret2 | go_ret
  exact ⟨A1, c1, M, rfl, h1, h2, h3, h4, h5⟩
end Cib
