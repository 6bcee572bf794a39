/- search: sets of rows, the small ones first. -/
import Derived.Test.YthlpcghoijgeiaaLocX
set_option linter.unusedVariables false
set_option linter.unusedSimpArgs false
set_option maxRecDepth 40000
namespace Cib
open Go Go.RowKit Go.Proofs
/-- The boxes of search. -/
structure SeI (w : World) (g : Nat) (Al : Option Addr) (n cl : Nat) (W : World) : Prop where
  below : Below w.heap.size w W
  bc : Blk W w.heap.size 23 #[.pointer (some ⟨g, 0, none⟩)]
  bs : Blk W (w.heap.size + 1) 28 #[.slice Al n cl]
  bf : ∃ v, Blk W (w.heap.size + 1 + 1) 28 #[v]
theorem SeI.via {w W W' : World} {g : Nat} {Al : Option Addr} {n cl B : Nat} (h : SeI w g Al n cl W) (hB : w.heap.size + 1 + 1 < B) (hb : Below B W W') : SeI w g Al n cl W' := by
  obtain ⟨v, hv⟩ := h.bf
  exact ⟨h.below.trans (hb.mono (by omega)), (hb.block _ (by omega)).trans h.bc, (hb.block _ (by omega)).trans h.bs, v, (hb.block _ (by omega)).trans hv⟩
/-- What was found. -/
def FoI (w : World) (k Wd n most : Nat) (D0 : List (List UInt8)) (W : World) : Prop :=
  ∃ A' c' M s D, Blk W (w.heap.size + 1 + 1) 28 #[.slice A' n c'] ∧ M.length = n ∧ W.ownsRow w.heap.size 22 1 (.slice A' n c') n (M.map RowB.v) ∧ RowsNew W w.heap.size M ∧ s.length ≤ most ∧ Loc.Fits k Wd n D0 s D ∧ bss M = Cod.shards k D n
set_option maxHeartbeats 1000000 in
theorem locContent {w : World} {g gf k m c : Nat} {A : Option Addr} (h : Cdr w g gf k m A c) (L : List RowB) (B : Nat) (Al : Option Addr) (n cl : Nat) (hrl : Rd w B Al (L.map RowB.v)) (hR : RowsAt w B L) (hB : B ≤ w.heap.size) (hl : L.length = n) (hn : n = k + m) (hcl : n ≤ cl) (hclm : cl ≤ maxLen) (Wd : Nat) (hW : 0 < Wd) (hW2 : Wd ≤ 1000000000) (hLW : ∀ r ∈ L, r.n = Wd)
    (most : Nat) (hmo : most ≤ m) (s : List Nat) (hs : s.length ≤ most) (hs9 : ∀ u ∈ s, u < n) (As : Option Addr) (ns cs : Nat) (hns : s.length = ns) (W : World) (hI : SeI w g Al n cl W) (hz : w.heap.size + 1 + 1 < W.heap.size) (hrs : Rd W W.heap.size As (s.map iv)) :
    Calls Try.prog 45 #[.slice As ns cs, .pointer (some ⟨w.heap.size, 0, none⟩), .pointer (some ⟨w.heap.size + 1, 0, none⟩), .pointer (some ⟨w.heap.size + 1 + 1, 0, none⟩)] W (ConR (w.heap.size + 1 + 1) (SeI w g Al n cl) (FoI w k Wd n most (bss L)) (fun s => ∀ D, ¬ Loc.Fits k Wd n (bss L) s D) s W) := by
  have hn255 : n ≤ 255 := by have := h.hs; omega
  have HT := Lib.hid (locTry (h.below hI.below) L W.heap.size Al n cl ((hrl.below (hI.below.mono hB)).more (Nat.le_trans hB hI.below.size)) (fun r hr => ((hR r hr).below (hI.below.mono hB)).more (Nat.le_trans hB hI.below.size)) (Nat.le_refl _) hl hn hcl hclm Wd hW hW2 hLW s (by omega) (fun u hu => by have := hs9 u hu; omega) As ns cs hns hrs)
  have HI := Lib.hid hI
  have HSL := Lib.hid hs
  have q1 := hI.bc.cell 0
  have q2 := hI.bs.cell 0
  simp only [List.getElem?_toArray, List.getElem?_cons_zero] at q1 q2
  clear h hrl hR hl hn hLW hs hs9 hns hrs hI
  go_enter Try.func45, Try.ntmps45
  go_wp2_with fail
  refine HT.out.mono ?_
  rintro e w2 ⟨A2, c2, M, x, rfl, hM, ho, hr, hb, hT⟩
  obtain ⟨v, hv⟩ := HI.out.bf
  have hv2 := hv.below hb hv.lt
  have hI2 := HI.out.via (B := W.heap.size) hz hb
  cases x
  · have HFIN : Hid (ConR (w.heap.size + 1 + 1) (SeI w g Al n cl) (FoI w k Wd n most (bss L)) (fun s => ∀ D, ¬ Loc.Fits k Wd n (bss L) s D) s W (.returned (.bool false)) w2) := Lib.hid (by
      exact ⟨false, rfl, Bf.of hb, hI2, fun h => (by cases h), fun _ => hT.no rfl⟩)
    clear hv hv2 hI2 hM ho hr hb hT HT
    go_wp2
    go_ret
    exact HFIN.out
  · have hq := hv2.cell 0
    simp only [List.getElem?_toArray, List.getElem?_cons_zero] at hq
    have hqf := hv2.frozen 0
    obtain ⟨D, hf, hMD⟩ := hT.yes rfl
    have hsz : w.heap.size ≤ W.heap.size := by omega
    have HFIN : Hid (ConR (w.heap.size + 1 + 1) (SeI w g Al n cl) (FoI w k Wd n most (bss L)) (fun s => ∀ D, ¬ Loc.Fits k Wd n (bss L) s D) s W (.returned (.bool true)) (w2.setCell ⟨w.heap.size + 1 + 1, 0, none⟩ (.slice A2 n c2))) := Lib.hid (by
      have hb0 : Below w.heap.size w2 (w2.setCell ⟨w.heap.size + 1 + 1, 0, none⟩ (.slice A2 n c2)) := (Below.refl _ _).setCell (by show _ ≤ w.heap.size + 1 + 1; omega) _
      have hB2 := hv2.set 0 (.slice A2 n c2)
      refine ⟨true, rfl, ⟨hb.os, hb.tape, hb.output, Nat.le_trans hb.size (by simp), fun j hj hne => ?_⟩, ⟨(hI2.below).trans hb0, hI2.bc.far (by show _ ≠ w.heap.size + 1 + 1; omega) _, hI2.bs.far (by show _ ≠ w.heap.size + 1 + 1; omega) _, _, hB2⟩, fun _ => ?_, fun h => (by cases h)⟩
      · rw [heap_setCell_other w2 ⟨w.heap.size + 1 + 1, 0, none⟩ j _ hne]
        exact hb.block j hj
      · refine ⟨A2, c2, M, s, D, hB2, hM, ?_, ?_, HSL.out, hf, hMD⟩
        · refine ownsRow_setCell_other (own_lowerB ho hsz) (fun he => ?_) _
          have := (ho.lt _ he).1
          have h2 : (⟨w.heap.size + 1 + 1, 0, none⟩ : Addr).block = w.heap.size + 1 + 1 := rfl
          omega
        · exact (hr.lower hsz).setCell (t := 28) hv2.ty (by decide) _)
    clear hv hv2 hI2 hM ho hr hb hT hf hMD HT
    go_wp2
    go_ret
    exact HFIN.out
/-- What search answers. -/
def SeaR (w : World) (k Wd n most : Nat) (D0 : List (List UInt8)) (e : Ending) (w' : World) : Prop :=
  Below w.heap.size w w' ∧ ((∃ A' c' M s D, e = .returned (.tuple #[.slice A' n c', .bool true]) ∧ M.length = n ∧ w'.ownsRow w.heap.size 22 1 (.slice A' n c') n (M.map RowB.v) ∧ RowsNew w' w.heap.size M ∧ s.length ≤ most ∧ Loc.Fits k Wd n D0 s D ∧ bss M = Cod.shards k D n) ∨
    (e = .returned (.tuple #[.slice none 0 0, .bool false]) ∧ ∀ s, Loc.Asc n 0 s → s.length ≤ most → ∀ D, ¬ Loc.Fits k Wd n D0 s D))
set_option maxHeartbeats 2000000 in
theorem locSearch {w : World} {g gf k m c : Nat} {A : Option Addr} (h : Cdr w g gf k m A c) (L : List RowB) (B : Nat) (Al : Option Addr) (n cl : Nat) (hrl : Rd w B Al (L.map RowB.v)) (hR : RowsAt w B L) (hB : B ≤ w.heap.size) (hl : L.length = n) (hn : n = k + m) (hcl : n ≤ cl) (hclm : cl ≤ maxLen) (Wd : Nat) (hW : 0 < Wd) (hW2 : Wd ≤ 1000000000) (hLW : ∀ r ∈ L, r.n = Wd)
    (most : Nat) (hmo : most ≤ m) :
    Calls Try.prog 25 #[.pointer (some ⟨g, 0, none⟩), .slice Al n cl, .int .i64 (most : Int)] w (SeaR w k Wd n most (bss L)) := by
  have hn255 : n ≤ 255 := by have := h.hs; omega
  have hmn : most ≤ n := by omega
  have hnk : (n : Int) = (k : Int) + (m : Int) := by omega
  have HN : Hid (∀ V, Below w.heap.size w V → Calls Try.prog 23 #[.pointer (some ⟨g, 0, none⟩)] V fun e w' => e = .returned (.int .i64 (n : Int)) ∧ w' = V.drew) := Lib.hid fun V hV => by rw [hnk]; exact cdN (h.below hV)
  have HCT := Lib.hid fun s hs hs9 As ns cs hns W hI hz hrs => locContent h L B Al n cl hrl hR hB hl hn hcl hclm Wd hW hW2 hLW most hmo s hs hs9 As ns cs hns W hI hz hrs
  have HI0 : Hid (SeI w g Al n cl (((w.alloc (.cells #[.pointer (some ⟨g, 0, none⟩)] 23)).alloc (.cells #[.slice Al n cl] 28)).alloc (.cells #[.slice none 0 0] 28))) := Lib.hid (by
    have h1 := Blk.new (w.alloc (.cells #[.pointer (some ⟨g, 0, none⟩)] 23)) 28 #[.slice Al n cl]
    have h2 := Blk.new ((w.alloc (.cells #[.pointer (some ⟨g, 0, none⟩)] 23)).alloc (.cells #[.slice Al n cl] 28)) 28 #[.slice none 0 0]
    have e1 : (w.alloc (.cells #[.pointer (some ⟨g, 0, none⟩)] 23)).heap.size = w.heap.size + 1 := by simp
    have e2 : ((w.alloc (.cells #[.pointer (some ⟨g, 0, none⟩)] 23)).alloc (.cells #[.slice Al n cl] 28)).heap.size = w.heap.size + 1 + 1 := by simp
    rw [e1] at h1
    rw [e2] at h2
    exact ⟨(((Below.refl _ _).alloc (Nat.le_refl _) _).alloc (by simp) _).alloc (by simp; omega) _, ((Blk.new w 23 #[.pointer (some ⟨g, 0, none⟩)]).alloc _).alloc _, h1.alloc _, _, h2⟩)
  have hz0 : w.heap.size + 1 + 1 < (((w.alloc (.cells #[.pointer (some ⟨g, 0, none⟩)] 23)).alloc (.cells #[.slice Al n cl] 28)).alloc (.cells #[.slice none 0 0] 28)).heap.size := by simp
  have HZ0 := Lib.hid hz0
  clear h hrl hR hl hn hLW hnk hz0
  go_enter Try.func25, Try.ntmps25
  go_wp2
  go_loopw [10, 14] (fun _ i wr => ∃ p : Nat, i = .int .i64 p ∧ p ≤ most + 1 ∧ Hid (SeI w g Al n cl wr) ∧ Hid (w.heap.size + 1 + 1 < wr.heap.size) ∧ Hid (∀ s, Loc.Asc n 0 s → s.length < p → ∀ D, ¬ Loc.Fits k Wd n (bss L) s D)) (fun _ i _ => most + 1 - (intOf i).toNat)
  case atStart => exact ⟨0, rfl, Nat.zero_le _, HI0, HZ0, Lib.hid fun s _ hs => absurd hs (by omega)⟩
  case round =>
    clear HI0 HZ0
    obtain ⟨p, rfl, hp, HI, HZ, HTR⟩ := hrel
    by_cases hlt : p < most + 1
    · have q1 := HI.out.bc.cell 0
      simp only [List.getElem?_toArray, List.getElem?_cons_zero] at q1
      have hpn : p ≤ n := by omega
      have HID : Hid (SeI w g Al n cl wr.drew) := Lib.hid (HI.out.via HZ.out (below_drewN (Below.refl _ _) 1))
      have HZD : Hid (w.heap.size + 1 + 1 < wr.drew.heap.size) := Lib.hid HZ.out
      have HSE := Lib.hid (locSets n p 45 #[.pointer (some ⟨w.heap.size, 0, none⟩), .pointer (some ⟨w.heap.size + 1, 0, none⟩), .pointer (some ⟨w.heap.size + 1 + 1, 0, none⟩)] (w.heap.size + 1 + 1) wr.drew (SeI w g Al n cl) (FoI w k Wd n most (bss L)) (fun s => ∀ D, ¬ Loc.Fits k Wd n (bss L) s D) hpn hn255 (fun a V => by go_simp) HZD.out HID.out (fun W W' hI hb => hI.via HZD.out hb)
        (fun s has hsl A1 c1 W hWz hrd hI => HCT.out s (by omega) has.lt A1 p c1 hsl W hI (Nat.lt_of_lt_of_le HZD.out hWz) hrd))
      have HBW := Lib.hid HI.out.below
      go_wp2_with fail
      refine (HN.out _ HBW.out).mono ?_
      rintro e w2 ⟨rfl, rfl⟩
      clear HID HZD HI
      go_wp2_with fail
      refine HSE.out.mono ?_
      rintro e w3 ⟨x, rfl, hI3, hF, hT⟩
      cases x
      · have HI3 := Lib.hid hI3
        have HZ3 : Hid (w.heap.size + 1 + 1 < w3.heap.size) := Lib.hid (by obtain ⟨v, hv⟩ := hI3.bf; exact hv.lt)
        have HTR2 : Hid (∀ s, Loc.Asc n 0 s → s.length < p + 1 → ∀ D, ¬ Loc.Fits k Wd n (bss L) s D) := Lib.hid fun s has hsl => by
          by_cases he : s.length = p
          · exact hT rfl s has he
          · exact HTR.out s has (by omega)
        clear hI3 hF hT HSE HTR
        go_wp2
        go_roundw
        case rel => exact ⟨p + 1, by go_num, by omega, HI3, HZ3, HTR2⟩
        case measure => simp [intOf]; omega
      · obtain ⟨A4, c4, M, s, D, hB4, hM, ho, hr, hsl, hf, hMD⟩ := hF rfl
        have q8 := hB4.cell 0
        simp only [List.getElem?_toArray, List.getElem?_cons_zero] at q8
        have HFIN : Hid (SeaR w k Wd n most (bss L) (.returned (.tuple #[.slice A4 n c4, .bool true])) w3) := Lib.hid (by
          exact ⟨hI3.below, .inl ⟨A4, c4, M, s, D, rfl, hM, ho, hr, hsl, hf, hMD⟩⟩)
        clear hB4 hM ho hr hsl hf hMD hI3 hF hT HSE HTR
        go_wp2
        first | go_ret2 | go_ret
        exact HFIN.out
    · have HFIN : Hid (SeaR w k Wd n most (bss L) (.returned (.tuple #[.slice none 0 0, .bool false])) wr) := Lib.hid (by
        exact ⟨HI.out.below, .inr ⟨rfl, fun s has hsl => HTR.out s has (by omega)⟩⟩)
      obtain rfl : p = most + 1 := by omega
      clear hlt
      go_wp2
      first | go_ret2 | go_ret
      exact HFIN.out
end Cib
