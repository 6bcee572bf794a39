/- Texts that are in use elsewhere, put together. -/
import Derived.Test.YthlpcghoijgeiaaLoC
import Derived.Lib.AppendZerosOnto
import Derived.Lib.AppendZeros
/-! Dat -/
section
set_option linter.unusedVariables false
set_option linter.unusedSimpArgs false
set_option maxRecDepth 20000
namespace Cib
open Go Go.RowKit Go.Proofs
/-- Rows that the call made, and their list, in a block of its own. -/
structure DatI (w0 : World) (g k c : Nat) (L : List RowB) (wr : World) : Prop where
  own : wr.ownsRow w0.heap.size 22 1 (.slice (some ⟨g, 0, none⟩) k c) k (L.map RowB.v)
  rows : ∀ r ∈ L, wr.ownsRow w0.heap.size 5 1 (.slice r.A r.n r.c) r.n (r.bs.map bv)
  below : Below w0.heap.size w0 wr
theorem DatI.via {w0 wr w' : World} {g k c : Nat} {L : List RowB} (h : DatI w0 g k c L wr) (hb : Below wr.heap.size wr w') : DatI w0 g k c L w' :=
  ⟨own_via h.own hb, fun r hr => own_via (h.rows r hr) hb, h.below.via hb⟩
theorem DatI.len {w0 wr : World} {g k c : Nat} {L : List RowB} (h : DatI w0 g k c L wr) : L.length = k := by simpa using own_len h.own
theorem DatI.at {w0 wr : World} {g k c : Nat} {L : List RowB} (h : DatI w0 g k c L wr) : RowsAt wr wr.heap.size L := fun r hr =>
  ⟨Rd.of_own (h.rows r hr), by simpa using own_len (h.rows r hr), (own_cap (h.rows r hr)).1, (own_cap (h.rows r hr)).2⟩
theorem DatI.cell {w0 wr : World} {g k c : Nat} {L : List RowB} (h : DatI w0 g k c L wr) {j : Nat} (hj : j < L.length) : wr.cell? ⟨g, j, none⟩ = some L[j].v ∧ wr.frozen? ⟨g, j, none⟩ = false := by
  refine ⟨?_, h.own.frozenAt j⟩
  rw [h.own.cellAt j (by rw [← h.len]; omega)]
  simp [hj]
/-- A block of rows that isn't one of bytes. -/
theorem own_apart {w : World} {b b' g : Nat} {n n' c' : Nat} {v : Value} {xs ys : List Value} (h : w.ownsRow b 5 1 v n xs) (h' : w.ownsRow b' 22 1 (.slice (some ⟨g, 0, none⟩) n' c') n' ys) : v.ownBlock ≠ some g := by
  intro he
  rcases h.2 with ⟨rfl, _⟩ | ⟨g1, cap1, cur1, rfl, _, h2, _⟩
  · simp [Value.ownBlock] at he
  · simp [Value.ownBlock] at he
    subst he
    rcases h'.2 with ⟨h0, _⟩ | ⟨g2, cap2, cur2, h0, _, h3, _⟩
    · cases h0
    · cases h0
      exact absurd (Ty.one (w := w) ⟨_, _, h3⟩ ⟨_, _, h2⟩) rowNe
/-- Another row in one's place. -/
theorem DatI.put {w0 wr : World} {g k c : Nat} {L : List RowB} (h : DatI w0 g k c L wr) {j : Nat} (hj : j < L.length) (r : RowB) (hr : wr.ownsRow w0.heap.size 5 1 (.slice r.A r.n r.c) r.n (r.bs.map bv)) (q : Nat) :
    DatI w0 g k c (L.set j r) ((wr.drewN q).setCell ⟨g, j, none⟩ r.v) := by
  refine ⟨?_, fun s hs => ?_, (h.below.via (below_drewN (Below.refl _ _) q)).setCell (p := ⟨g, j, none⟩) ?_ _⟩
  · rw [List.map_set]
    exact (World.ownsRow.stored (w := wr.drewN q) h.own j r.v).1
  · rcases List.mem_or_eq_of_mem_set hs with hs | rfl
    · exact ownsRow_setCell_other (w := wr.drewN q) (h.rows s hs) (fun he => own_apart (h.rows s hs) h.own he) _
    · exact ownsRow_setCell_other (w := wr.drewN q) hr (fun he => own_apart hr h.own he) _
  · rcases h.own.2 with ⟨h0, _⟩ | ⟨g', cap', cur', h0, h1, _, _⟩
    · cases h0
    · cases h0
      exact h1
end Cib

end
/-! MatX -/
section
set_option linter.unusedVariables false
set_option linter.unusedSimpArgs false
set_option maxRecDepth 40000
namespace Cib
open Go Go.RowKit Go.Proofs
def bsL (L : List RowB) : List (List UInt8) := L.map (·.bs)
theorem bsL_length (L : List RowB) : (bsL L).length = L.length := by simp [bsL]
theorem bsL_get {L : List RowB} {i : Nat} (h : i < L.length) : (bsL L).getD i [] = L[i].bs := by
  rw [List.getD_eq_getElem?_getD, List.getElem?_eq_getElem (by rw [bsL_length]; exact h)]
  simp [bsL]
theorem bsL_set (L : List RowB) (i : Nat) (r : RowB) : bsL (L.set i r) = (bsL L).set i r.bs := by
  unfold bsL
  rw [List.map_set]
theorem bsL_ent {L : List RowB} {i : Nat} (h : i < L.length) (k : Nat) : Lin.ent (bsL L) i k = L[i].bs.getD k 0 := by
  unfold Lin.ent
  rw [bsL_get h]
/-- A matrix at work. -/
structure WkI (w0 : World) (g gw gr n W c : Nat) (L : List RowB) (wr : World) : Prop where
  full : Full wr g
  box : Blk wr gw 143 #[.pointer (some ⟨g, 0, none⟩), .slice (some ⟨gr, 0, none⟩) n c]
  dat : DatI w0 gr n c L wr
  wid : ∀ r ∈ L, r.n = W
  hg : g < w0.heap.size
  hgw : w0.heap.size ≤ gw
section
variable {w0 wr w' : World} {g gw gr n W c : Nat} {L : List RowB}
theorem WkI.via (h : WkI w0 g gw gr n W c L wr) (hb : Below wr.heap.size wr w') : WkI w0 g gw gr n W c L w' :=
  ⟨h.full.on hb, h.box.below hb h.box.lt, h.dat.via hb, h.wid, h.hg, h.hgw⟩
theorem WkI.b0 (h : WkI w0 g gw gr n W c L wr) : wr.cell? ⟨gw, 0, none⟩ = some (.pointer (some ⟨g, 0, none⟩)) := h.box.cell 0
theorem WkI.b1 (h : WkI w0 g gw gr n W c L wr) : wr.cell? ⟨gw, 1, none⟩ = some (.slice (some ⟨gr, 0, none⟩) n c) := h.box.cell 1
theorem WkI.ne (h : WkI w0 g gw gr n W c L wr) : gw ≠ gr := fun e => by
  subst e
  rcases h.dat.own.2 with ⟨h0, _⟩ | ⟨g', cap', cur', h0, _, h2, _⟩
  · cases h0
  · cases h0
    exact absurd (Ty.one (w := wr) ⟨_, _, h2⟩ ⟨_, _, h.box⟩) (by decide)
theorem WkI.gge (h : WkI w0 g gw gr n W c L wr) : w0.heap.size ≤ gr ∧ gr < wr.heap.size := h.dat.own.lt gr rfl
theorem WkI.at (h : WkI w0 g gw gr n W c L wr) {j : Nat} (hj : j < L.length) : L[j].At wr wr.heap.size := h.dat.at _ (List.getElem_mem hj)
theorem WkI.put (h : WkI w0 g gw gr n W c L wr) {j : Nat} (hj : j < L.length) (r : RowB) (hr : wr.ownsRow w0.heap.size 5 1 (.slice r.A r.n r.c) r.n (r.bs.map bv)) (hW : r.n = W) (q : Nat) :
    WkI w0 g gw gr n W c (L.set j r) ((wr.drewN q).setCell ⟨gr, j, none⟩ r.v) := by
  have h1 := h.gge
  have hg := h.hg
  refine ⟨?_, ?_, h.dat.put hj r hr q, fun x hx => ?_, h.hg, h.hgw⟩
  · exact Blk.far (w := wr.drewN q) (t := 70) (cs := fcells 1 0 255) h.full (p := ⟨gr, j, none⟩) (by show g ≠ gr; omega) _
  · exact Blk.far (w := wr.drewN q) h.box (p := ⟨gr, j, none⟩) (by show gw ≠ gr; exact h.ne) _
  · rcases List.mem_or_eq_of_mem_set hx with hx | rfl
    · exact h.wid x hx
    · exact hW
theorem WkI.same_set (h : WkI w0 g gw gr n W c L wr) (j q : Nat) (v : Value) : Same [22] wr ((wr.drewN q).setCell ⟨gr, j, none⟩ v) := fun k t hk ht => by
  refine heap_setCell_other (wr.drewN q) ⟨gr, j, none⟩ k v (fun e => ?_)
  simp only at e
  subst e
  rcases h.dat.own.2 with ⟨h0, _⟩ | ⟨g', cap', cur', h0, _, h2, _⟩
  · cases h0
  · cases h0
    exact ht (by rw [Ty.one hk ⟨_, _, h2⟩]; exact List.mem_singleton.2 rfl)
end
/-- What pivot answers. -/
def PivR (M : List (List UInt8)) (frm col : Nat) (e : Ending) : Prop :=
  (e = .returned (.int .i64 (-1)) ∧ ∀ i, frm ≤ i → i < M.length → Lin.ent M i col = 0) ∨ ∃ q : Nat, e = .returned (.int .i64 (q : Int)) ∧ frm ≤ q ∧ q < M.length ∧ Lin.ent M q col ≠ 0
set_option maxHeartbeats 2000000 in
theorem matPivot {w0 wr : World} {g gw gr n W c : Nat} {L : List RowB} (h : WkI w0 g gw gr n W c L wr) (frm col : Nat) (hf : frm ≤ n) (hc : col < W) (hn : n ≤ 65536) (hW : W ≤ 65536) :
    Calls Try.prog 102 #[.pointer (some ⟨gw, 0, none⟩), .int .i64 (frm : Int), .int .i64 (col : Int)] wr fun e w' => PivR (bsL L) frm col e ∧ w' = wr := by
  have c1 := h.b1
  have hcap := own_cap h.dat.own
  have hLn := h.dat.len
  have hsl := fun W' : World => run_cut_from (P := Try.prog) 28 22 Try.underlying28 sizeRow (some ⟨gr, 0, none⟩) n c frm .i64 hf W'
  have hr0 := (Rd.of_own h.dat.own).cut (c := c) (k := frm) (by rw [List.length_map, hLn]; exact hf) (by rw [List.length_map, hLn]; exact hcap.1)
  rw [← List.map_drop] at hr0
  have HR := Lib.hid hr0
  have HAT := Lib.hid (fun j (hj : j < L.length) => h.at hj)
  have HL := Lib.hid hLn
  have HWD := Lib.hid h.wid
  obtain ⟨m, hm⟩ : ∃ m, n - frm = m := ⟨_, rfl⟩
  obtain ⟨cm, hcm⟩ : ∃ m, c - frm = m := ⟨_, rfl⟩
  rw [hm, hcm] at hsl
  have HM : Hid (n = frm + m) := Lib.hid (by omega)
  have hmb : m ≤ 65536 := by omega
  have hfb : frm ≤ 65536 := by omega
  have hmf : frm + m ≤ 65536 := by omega
  generalize cut (some ⟨gr, 0, none⟩) c frm = A at *
  clear h hr0 hLn hm hcm hf
  go_enter Try.func102, Try.ntmps102
  go_wp2
  go_loop [16] (fun i => ∃ k : Nat, k ≤ m ∧ i = .int .i64 k ∧ Hid (∀ i, i < k → Lin.ent (bsL L) (frm + i) col = 0)) (fun i => m - (intOf i).toNat)
  case atStart => exact ⟨0, Nat.zero_le _, rfl, Lib.hid (fun i hi => by omega)⟩
  case round =>
    obtain ⟨k, hk, rfl, hz⟩ := hrel
    by_cases hlt : k < m
    · have hkL : frm + k < L.length := by rw [HL.out, HM.out]; omega
      obtain ⟨ad, rfl, hab, hcell⟩ := HR.out.row (k := k) (by rw [List.length_drop]; omega)
      rw [List.getElem_drop] at hcell
      have hrow := HAT.out _ hkL
      have hwd := HWD.out _ (List.getElem_mem hkL)
      have HE := Lib.hid (bsL_ent hkL col)
      generalize L[frm + k] = r at *
      obtain ⟨RA, rn, rc, rb⟩ := r
      simp only at hcell hwd HE
      subst hwd
      have hrl : rb.length = rn := hrow.len
      obtain ⟨rad, hra, _, hbyte⟩ := hrow.rd.byte (k := col) (by rw [hrl]; exact hc)
      simp only at hra
      subst hra
      have HX : Hid (Lin.ent (bsL L) (frm + k) col = rb[col]'(by rw [hrl]; exact hc)) := Lib.hid (by
        rw [HE.out, List.getD_eq_getElem?_getD, List.getElem?_eq_getElem (by rw [hrl]; exact hc)]
        rfl)
      generalize rb[col]'(by rw [hrl]; exact hc) = x at *
      have HRL := Lib.hid hrl
      clear hrl hrow hkL HE
      by_cases hx : x = 0
      · subst hx
        have HZ : Hid (∀ i, i < k + 1 → Lin.ent (bsL L) (frm + i) col = 0) := Lib.hid fun i hi => by
          by_cases e : i = k
          · rw [e]
            exact HX.out
          · exact hz.out i (by omega)
        clear hz HX
        go_wp2
        exact ⟨⟨k + 1, hlt, by go_num, HZ⟩, by simp [intOf]; omega⟩
      · have hx0 : x.toNat ≠ 0 := Lin.ne8 hx
        have hb1 : (((x.toNat : Nat) : Int) == 0) = false := by simp; omega
        have hb2 : (((x.toNat : Nat) : Int) != 0) = true := by simp; omega
        have HN : Hid (x ≠ 0) := Lib.hid hx
        clear hx
        go_wp2
        go_ret
        exact ⟨.inr ⟨frm + k, ret_eq (int_eq (by omega)), by omega, by rw [bsL_length, HL.out, HM.out]; omega, by rw [HX.out]; exact HN.out⟩, rfl⟩
    · obtain rfl : k = m := by omega
      clear hlt
      go_wp2
      go_ret
      exact ⟨.inl ⟨rfl, fun i hi hl => by
        rw [bsL_length, HL.out, HM.out] at hl
        have := hz.out (i - frm) (by omega)
        rw [show frm + (i - frm) = i by omega] at this
        exact this⟩, rfl⟩
/-- Cells that a region of clean goes by. -/
structure WkF (g gw gr n c : Nat) (j : Nat) (r : RowB) (w : World) : Prop where
  b0 : w.cell? ⟨gw, 0, none⟩ = some (.pointer (some ⟨g, 0, none⟩))
  b1 : w.cell? ⟨gw, 1, none⟩ = some (.slice (some ⟨gr, 0, none⟩) n c)
  row : w.cell? ⟨gr, j, none⟩ = some (.slice r.A r.n r.c)
theorem WkI.wkf {w0 wr : World} {g gw gr n W c : Nat} {L : List RowB} (h : WkI w0 g gw gr n W c L wr) {j : Nat} (hj : j < L.length) {r : RowB} (e : L[j] = r) : WkF g gw gr n c j r wr := ⟨h.b0, h.b1, by
  have := (h.dat.cell hj).1
  rw [e] at this
  exact this⟩
end Cib

end
/-! MatY -/
section
set_option linter.unusedVariables false
set_option linter.unusedSimpArgs false
set_option maxRecDepth 40000
namespace Cib
open Go Go.RowKit Go.Proofs
theorem divA_one {x : UInt8} (h : x ≠ 0) : divA 1 x.toNat = (Fld.gdiv 1 x.toNat, 0) := by
  unfold divA
  rw [if_neg (Lin.ne8 h)]
theorem getD_0 {l : List UInt8} {i : Nat} (h : i < l.length) : l.getD i 0 = l[i] := by
  rw [List.getD_eq_getElem?_getD, List.getElem?_eq_getElem h]
  rfl
theorem WkF.below {g gw gr n c j : Nat} {r : RowB} {w w' : World} (h : WkF g gw gr n c j r w) (hb : Below w.heap.size w w') : WkF g gw gr n c j r w' :=
  ⟨(hb.cell (block_lt_of_cell h.b0)).trans h.b0, (hb.cell (block_lt_of_cell h.b1)).trans h.b1, (hb.cell (block_lt_of_cell h.row)).trans h.row⟩
theorem clean_row {L Lk : List RowB} {at_ col k : Nat} (h : bsL Lk = Lin.cleanL (bsL L) at_ col k) (hk : k < Lk.length) (hka : k ≠ at_) : Lk[k].bs = (bsL L).getD k [] := by
  have hl : Lk.length = L.length := by
    have := congrArg List.length h
    rw [Lin.cleanL_length, bsL_length, bsL_length] at this
    exact this
  rw [← bsL_get hk, h, Lin.getD_at (by rw [Lin.cleanL_length, bsL_length]; omega), Lin.cleanL_get (by rw [bsL_length]; omega), if_neg hka, if_neg (Nat.lt_irrefl k), Lin.getD_at (by rw [bsL_length]; omega)]
theorem clean_head {L Lk : List RowB} {at_ col k : Nat} (h : bsL Lk = Lin.cleanL (bsL L) at_ col k) (ha : at_ < Lk.length) : Lk[at_].bs = Lin.headRow (bsL L) at_ col := by
  have hl : Lk.length = L.length := by
    have := congrArg List.length h
    rw [Lin.cleanL_length, bsL_length, bsL_length] at this
    exact this
  rw [← bsL_get ha, h, Lin.getD_at (by rw [Lin.cleanL_length, bsL_length]; omega), Lin.cleanL_get (by rw [bsL_length]; omega), if_pos rfl]
set_option maxHeartbeats 4000000 in
theorem matClean {w0 wr : World} {g gw gr n W c : Nat} {L : List RowB} (h : WkI w0 g gw gr n W c L wr) (at_ col : Nat) (ha : at_ < n) (hc : col < W) (hn : n ≤ 65536) (hW : W ≤ 65536) (hne : Lin.ent (bsL L) at_ col ≠ 0) :
    Calls Try.prog 103 #[.pointer (some ⟨gw, 0, none⟩), .int .i64 (at_ : Int), .int .i64 (col : Int)] wr fun e w' => e = .returned (.tuple #[]) ∧ ∃ L', WkI w0 g gw gr n W c L' w' ∧ bsL L' = Lin.cleanL (bsL L) at_ col n ∧ Same [22] wr w' := by
  obtain ⟨w9, hw9⟩ : ∃ w, w = wr := ⟨_, rfl⟩
  rw [← hw9]
  rw [← hw9] at h
  clear hw9
  have HK := Lib.hid h
  have hLn := h.dat.len
  have haL : at_ < L.length := by rw [hLn]; exact ha
  have hF := h.wkf haL rfl
  have hrow := h.at haL
  have hwd := h.wid _ (List.getElem_mem haL)
  have hent := bsL_ent haL col
  have hbs := bsL_get haL
  generalize hr0 : L[at_] = r at *
  obtain ⟨RA, rn, rc, rb⟩ := r
  simp only at hwd hent hbs
  subst hwd
  have hrl : rb.length = rn := hrow.len
  obtain ⟨rad, hra, _, hbyte⟩ := hrow.rd.byte (k := col) (by rw [hrl]; exact hc)
  simp only at hra
  subst hra
  rw [getD_0 (by rw [hrl]; exact hc)] at hent
  generalize rb[col]'(by rw [hrl]; exact hc) = x at *
  rw [hent] at hne
  have HD := Lib.hid fun w1 (h1 : Full w1 g) => fldDivF g 1 x.toNat (by decide) x.toNat_lt w1 h1
  rw [divA_one hne] at HD
  unfold pairV at HD
  simp only at HD
  have HHR : Hid (Lin.headRow (bsL L) at_ col = scB (Fld.gdiv 1 x.toNat) rb) := Lib.hid (by unfold Lin.headRow; rw [hent, hbs])
  have hdl := Fld.gdiv_lt 1 x.toNat
  generalize Fld.gdiv 1 x.toNat = d at *
  have HF := Lib.hid hF
  have HRO := Lib.hid hrow
  have HRL := Lib.hid hrl
  have HLN := Lib.hid hLn
  have HHL := Lib.hid haL
  have HDL := Lib.hid hdl
  have hbl := block_lt_of_cell hbyte
  have hfl0 := block_lt_of_cell hF.b0
  have hfl1 := block_lt_of_cell hF.b1
  have hflr := block_lt_of_cell hF.row
  clear h hLn haL hF hrow hent hbs hrl hne hdl hr0
  go_enter Try.func103, Try.ntmps103
  go_wp2
  refine wp_region_held_drew (S := (fun wQq => Below (World.heap (w9.drew)).size (w9.drew) wQq)) (by kernel_rfl) (by exact Below.refl _ _) (fun _ => ?_)
  refine wpAnyH_take (i := 0) (v := ?_) rfl (by kernel_rfl) (by kernel_rfl) (by kernel_rfl) (fun _ _ _ h => h) (Or.inl ⟨by rfl, ?_⟩) (Below.refl _ _) ?_
  rotate_left
  · intro wS hSw
    go_simp
    try with_reducible rfl
  try simp only [List.getElem_toArray, List.getElem_cons_zero, List.getElem_cons_succ, Act.put, List.setIfInBounds_toArray, List.set_cons_zero, List.set_cons_succ]
  refine wpAnyH_take (i := 1) (v := ?_) rfl (by kernel_rfl) (by kernel_rfl) (by kernel_rfl) (fun _ _ _ h => h) (Or.inl ⟨by rfl, ?_⟩) (Below.refl _ _) ?_
  rotate_left
  · intro wS hSw
    go_simp
    try with_reducible rfl
  try simp only [List.getElem_toArray, List.getElem_cons_zero, List.getElem_cons_succ, Act.put, List.setIfInBounds_toArray, List.set_cons_zero, List.set_cons_succ]
  refine wpAnyH_take (i := 2) (v := ?_) rfl (by kernel_rfl) (by kernel_rfl) (by kernel_rfl) (fun _ _ _ h => h) (Or.inl ⟨by rfl, ?_⟩) (Below.refl _ _) ?_
  rotate_left
  · intro wS hSw
    go_simp
    try with_reducible rfl
  try simp only [List.getElem_toArray, List.getElem_cons_zero, List.getElem_cons_succ, Act.put, List.setIfInBounds_toArray, List.set_cons_zero, List.set_cons_succ]
  refine wpAnyH_take (i := 4) (v := ?_) rfl (by kernel_rfl) (by kernel_rfl) (by kernel_rfl) (fun _ _ _ h => h) (Or.inl ⟨by rfl, ?_⟩) (Below.refl _ _) ?_
  rotate_left
  · intro wS hSw
    go_simp
    try with_reducible rfl
  try simp only [List.getElem_toArray, List.getElem_cons_zero, List.getElem_cons_succ, Act.put, List.setIfInBounds_toArray, List.set_cons_zero, List.set_cons_succ]
  refine wpAnyH_take (i := 5) (v := ?_) rfl (by kernel_rfl) (by kernel_rfl) (by kernel_rfl) (fun _ _ _ h => h) (Or.inl ⟨by rfl, ?_⟩) (Below.refl _ _) ?_
  rotate_left
  · intro wS hSw
    go_simp
    try with_reducible rfl
  try simp only [List.getElem_toArray, List.getElem_cons_zero, List.getElem_cons_succ, Act.put, List.setIfInBounds_toArray, List.set_cons_zero, List.set_cons_succ]
  refine wpAnyH_take (i := 6) (v := ?_) rfl (by kernel_rfl) (by kernel_rfl) (by kernel_rfl) (fun _ _ _ h => h) (Or.inl ⟨by rfl, ?_⟩) (Below.refl _ _) ?_
  rotate_left
  · intro wS hSw
    go_simp
    try with_reducible rfl
  try simp only [List.getElem_toArray, List.getElem_cons_zero, List.getElem_cons_succ, Act.put, List.setIfInBounds_toArray, List.set_cons_zero, List.set_cons_succ]
  refine wpAnyH_take (i := 8) (v := ?_) rfl (by kernel_rfl) (by kernel_rfl) (by kernel_rfl) (fun _ _ _ h => h) (Or.inl ⟨by rfl, ?_⟩) (Below.refl _ _) ?_
  rotate_left
  · intro wS hSw
    go_simp
    try with_reducible rfl
  try simp only [List.getElem_toArray, List.getElem_cons_zero, List.getElem_cons_succ, Act.put, List.setIfInBounds_toArray, List.set_cons_zero, List.set_cons_succ]
  refine wpAnyH_take (i := 11) (v := ?_) rfl (by kernel_rfl) (by kernel_rfl) (by kernel_rfl) (fun _ _ _ h => h) (Or.inl ⟨by rfl, ?_⟩) (Below.refl _ _) ?_
  rotate_left
  · intro wS hSw
    go_simp
    try with_reducible rfl
  try simp only [List.getElem_toArray, List.getElem_cons_zero, List.getElem_cons_succ, Act.put, List.setIfInBounds_toArray, List.set_cons_zero, List.set_cons_succ]
  refine wpAnyH_take (i := 3) (v := ?_) rfl (by kernel_rfl) (by kernel_rfl) (by kernel_rfl) (fun _ _ _ h => h) (Or.inl ⟨by rfl, ?_⟩) (Below.refl _ _) ?_
  rotate_left
  · intro wS hSw
    have hcv := ((hSw.cell (p := ⟨gw, 0, none⟩) (by exact hfl0)).trans HF.out.b0)
    go_simp
    try with_reducible rfl
  try simp only [List.getElem_toArray, List.getElem_cons_zero, List.getElem_cons_succ, Act.put, List.setIfInBounds_toArray, List.set_cons_zero, List.set_cons_succ]
  refine wpAnyH_take (i := 7) (v := ?_) rfl (by kernel_rfl) (by kernel_rfl) (by kernel_rfl) (fun _ _ _ h => h) (Or.inl ⟨by rfl, ?_⟩) (Below.refl _ _) ?_
  rotate_left
  · intro wS hSw
    have hcv := ((hSw.cell (p := ⟨gw, 1, none⟩) (by exact hfl1)).trans HF.out.b1)
    go_simp
    try with_reducible rfl
  try simp only [List.getElem_toArray, List.getElem_cons_zero, List.getElem_cons_succ, Act.put, List.setIfInBounds_toArray, List.set_cons_zero, List.set_cons_succ]
  refine wpAnyH_take (i := 9) (v := ?_) rfl (by kernel_rfl) (by kernel_rfl) (by kernel_rfl) (fun _ _ _ h => h) (Or.inl ⟨by rfl, ?_⟩) (Below.refl _ _) ?_
  rotate_left
  · intro wS hSw
    go_simp
    try with_reducible rfl
  try simp only [List.getElem_toArray, List.getElem_cons_zero, List.getElem_cons_succ, Act.put, List.setIfInBounds_toArray, List.set_cons_zero, List.set_cons_succ]
  refine wpAnyH_take (i := 10) (v := ?_) rfl (by kernel_rfl) (by kernel_rfl) (by kernel_rfl) (fun _ _ _ h => h) (Or.inl ⟨by rfl, ?_⟩) (Below.refl _ _) ?_
  rotate_left
  · intro wS hSw
    have hcv := ((hSw.cell (p := ⟨gr, at_, none⟩) (by exact hflr)).trans HF.out.row)
    go_simp
    try with_reducible rfl
  try simp only [List.getElem_toArray, List.getElem_cons_zero, List.getElem_cons_succ, Act.put, List.setIfInBounds_toArray, List.set_cons_zero, List.set_cons_succ]
  refine wpAnyH_take (i := 12) (v := ?_) rfl (by kernel_rfl) (by kernel_rfl) (by kernel_rfl) (fun _ _ _ h => h) (Or.inl ⟨by rfl, ?_⟩) (Below.refl _ _) ?_
  rotate_left
  · intro wS hSw
    go_simp
    try with_reducible rfl
  try simp only [List.getElem_toArray, List.getElem_cons_zero, List.getElem_cons_succ, Act.put, List.setIfInBounds_toArray, List.set_cons_zero, List.set_cons_succ]
  refine wpAnyH_take (i := 13) (v := ?_) rfl (by kernel_rfl) (by kernel_rfl) (by kernel_rfl) (fun _ _ _ h => h) (Or.inl ⟨by rfl, ?_⟩) (Below.refl _ _) ?_
  rotate_left
  · intro wS hSw
    have hcv := ((hSw.cell (p := rad.add col) (by exact hbl)).trans hbyte)
    go_simp
    try with_reducible rfl
  try simp only [List.getElem_toArray, List.getElem_cons_zero, List.getElem_cons_succ, Act.put, List.setIfInBounds_toArray, List.set_cons_zero, List.set_cons_succ]
  refine wpAnyH_ready (rs := [14]) (by kernel_rfl) (by simp) ?_
  refine AllReadyH.cons rfl (fun K hK => ?_) AllReadyH.nil
  go_simp
  refine (HD.out _ (HK.out.full.drewN 1)).mono ?_
  rintro e w2 ⟨rfl, hb2⟩
  refine hK.out _ _ hb2 (fun _ => ?_)
  clear hK K
  try simp only [List.getElem_toArray, List.getElem_cons_zero, List.getElem_cons_succ, Act.put, List.setIfInBounds_toArray, List.set_cons_zero, List.set_cons_succ]
  refine wpAnyH_take (i := 15) (v := ?_) rfl (by kernel_rfl) (by kernel_rfl) (by kernel_rfl) (fun _ _ _ h => h) (Or.inl ⟨by rfl, ?_⟩) hb2 ?_
  rotate_left
  · intro wS hSw
    go_simp
    try with_reducible rfl
  try simp only [List.getElem_toArray, List.getElem_cons_zero, List.getElem_cons_succ, Act.put, List.setIfInBounds_toArray, List.set_cons_zero, List.set_cons_succ]
  refine wpAnyH_take (i := 16) (v := ?_) rfl (by kernel_rfl) (by kernel_rfl) (by kernel_rfl) (fun _ _ _ h => h) (Or.inl ⟨by rfl, ?_⟩) hb2 ?_
  rotate_left
  · intro wS hSw
    go_simp
    try with_reducible rfl
  try simp only [List.getElem_toArray, List.getElem_cons_zero, List.getElem_cons_succ, Act.put, List.setIfInBounds_toArray, List.set_cons_zero, List.set_cons_succ]
  refine wpAnyH_take (i := 17) (v := ?_) rfl (by kernel_rfl) (by kernel_rfl) (by kernel_rfl) (fun _ _ _ h => h) (Or.inl ⟨by rfl, ?_⟩) hb2 ?_
  rotate_left
  · intro wS hSw
    go_simp
    try with_reducible rfl
  try simp only [List.getElem_toArray, List.getElem_cons_zero, List.getElem_cons_succ, Act.put, List.setIfInBounds_toArray, List.set_cons_zero, List.set_cons_succ]
  refine wpAnyH_take (i := 18) (v := ?_) rfl (by kernel_rfl) (by kernel_rfl) (by kernel_rfl) (fun _ _ _ h => h) (Or.inl ⟨by rfl, ?_⟩) hb2 ?_
  rotate_left
  · intro wS hSw
    go_simp
    try with_reducible rfl
  try simp only [List.getElem_toArray, List.getElem_cons_zero, List.getElem_cons_succ, Act.put, List.setIfInBounds_toArray, List.set_cons_zero, List.set_cons_succ]
  refine wpAnyH_take (i := 19) (v := ?_) rfl (by kernel_rfl) (by kernel_rfl) (by kernel_rfl) (fun _ _ _ h => h) (Or.inl ⟨by rfl, ?_⟩) hb2 ?_
  rotate_left
  · intro wS hSw
    go_simp
    try with_reducible rfl
  try simp only [List.getElem_toArray, List.getElem_cons_zero, List.getElem_cons_succ, Act.put, List.setIfInBounds_toArray, List.set_cons_zero, List.set_cons_succ]
  refine wpAnyH_done (by kernel_rfl) ?_ _
  have hb2' : Below w9.heap.size w9 w2 := (below_drewN (Below.refl _ _) 1).trans hb2
  have HK2 := Lib.hid (HK.out.via hb2')
  have HS2 : Hid (Same [22] w9 w2) := Lib.hid (Same.below hb2')
  have HF2 := Lib.hid (HF.out.below hb2')
  have HSC := Lib.hid fun w1 (hw : Below w2.heap.size w2 w1) => fldScaleF g d HDL.out _ rc rb w1 (HK2.out.full.on hw) w9.heap.size ((HRO.out.rd.below hb2').below (hw.mono hb2'.size)) HRL.out (Nat.le_trans hb2'.size hw.size) (by omega)
  clear hb2 hb2' HF HK HD hbyte hbl
  have hP0 : w2.drew.cell? ⟨gw, 0, none⟩ = some (.pointer (some ⟨g, 0, none⟩)) ∧ w2.drew.cell? ⟨gw, 1, none⟩ = some (.slice (some ⟨gr, 0, none⟩) n c) := ⟨HF2.out.b0, HF2.out.b1⟩
  have hrow2 : w2.drew.cell? ⟨gr, at_, none⟩ = some (.slice (some rad) rn rc) := HF2.out.row
  have HP0 := Lib.hid hP0
  clear hP0
  go_wp2
  refine wp_region_held_drew (S := (fun wQq => wQq.cell? ⟨gw, 0, none⟩ = some (.pointer (some ⟨g, 0, none⟩)) ∧ wQq.cell? ⟨gw, 1, none⟩ = some (.slice (some ⟨gr, 0, none⟩) n c))) (by kernel_rfl) (HP0.out) (fun _ => ?_)
  refine wpAnyH_take (i := 0) (v := ?_) rfl (by kernel_rfl) (by kernel_rfl) (by kernel_rfl) (fun _ _ _ h => h) (Or.inl ⟨by rfl, ?_⟩) (HP0.out) ?_
  rotate_left
  · intro wS hSw
    go_simp
    try with_reducible rfl
  try simp only [List.getElem_toArray, List.getElem_cons_zero, List.getElem_cons_succ, Act.put, List.setIfInBounds_toArray, List.set_cons_zero, List.set_cons_succ]
  refine wpAnyH_take (i := 1) (v := ?_) rfl (by kernel_rfl) (by kernel_rfl) (by kernel_rfl) (fun _ _ _ h => h) (Or.inl ⟨by rfl, ?_⟩) (HP0.out) ?_
  rotate_left
  · intro wS hSw
    go_simp
    try with_reducible rfl
  try simp only [List.getElem_toArray, List.getElem_cons_zero, List.getElem_cons_succ, Act.put, List.setIfInBounds_toArray, List.set_cons_zero, List.set_cons_succ]
  refine wpAnyH_take (i := 2) (v := ?_) rfl (by kernel_rfl) (by kernel_rfl) (by kernel_rfl) (fun _ _ _ h => h) (Or.inl ⟨by rfl, ?_⟩) (HP0.out) ?_
  rotate_left
  · intro wS hSw
    go_simp
    try with_reducible rfl
  try simp only [List.getElem_toArray, List.getElem_cons_zero, List.getElem_cons_succ, Act.put, List.setIfInBounds_toArray, List.set_cons_zero, List.set_cons_succ]
  refine wpAnyH_take (i := 4) (v := ?_) rfl (by kernel_rfl) (by kernel_rfl) (by kernel_rfl) (fun _ _ _ h => h) (Or.inl ⟨by rfl, ?_⟩) (HP0.out) ?_
  rotate_left
  · intro wS hSw
    go_simp
    try with_reducible rfl
  try simp only [List.getElem_toArray, List.getElem_cons_zero, List.getElem_cons_succ, Act.put, List.setIfInBounds_toArray, List.set_cons_zero, List.set_cons_succ]
  refine wpAnyH_take (i := 5) (v := ?_) rfl (by kernel_rfl) (by kernel_rfl) (by kernel_rfl) (fun _ _ _ h => h) (Or.inl ⟨by rfl, ?_⟩) (HP0.out) ?_
  rotate_left
  · intro wS hSw
    go_simp
    try with_reducible rfl
  try simp only [List.getElem_toArray, List.getElem_cons_zero, List.getElem_cons_succ, Act.put, List.setIfInBounds_toArray, List.set_cons_zero, List.set_cons_succ]
  refine wpAnyH_take (i := 6) (v := ?_) rfl (by kernel_rfl) (by kernel_rfl) (by kernel_rfl) (fun _ _ _ h => h) (Or.inl ⟨by rfl, ?_⟩) (HP0.out) ?_
  rotate_left
  · intro wS hSw
    go_simp
    try with_reducible rfl
  try simp only [List.getElem_toArray, List.getElem_cons_zero, List.getElem_cons_succ, Act.put, List.setIfInBounds_toArray, List.set_cons_zero, List.set_cons_succ]
  refine wpAnyH_take (i := 7) (v := ?_) rfl (by kernel_rfl) (by kernel_rfl) (by kernel_rfl) (fun _ _ _ h => h) (Or.inl ⟨by rfl, ?_⟩) (HP0.out) ?_
  rotate_left
  · intro wS hSw
    go_simp
    try with_reducible rfl
  try simp only [List.getElem_toArray, List.getElem_cons_zero, List.getElem_cons_succ, Act.put, List.setIfInBounds_toArray, List.set_cons_zero, List.set_cons_succ]
  refine wpAnyH_take (i := 9) (v := ?_) rfl (by kernel_rfl) (by kernel_rfl) (by kernel_rfl) (fun _ _ _ h => h) (Or.inl ⟨by rfl, ?_⟩) (HP0.out) ?_
  rotate_left
  · intro wS hSw
    go_simp
    try with_reducible rfl
  try simp only [List.getElem_toArray, List.getElem_cons_zero, List.getElem_cons_succ, Act.put, List.setIfInBounds_toArray, List.set_cons_zero, List.set_cons_succ]
  refine wpAnyH_take (i := 10) (v := ?_) rfl (by kernel_rfl) (by kernel_rfl) (by kernel_rfl) (fun _ _ _ h => h) (Or.inl ⟨by rfl, ?_⟩) (HP0.out) ?_
  rotate_left
  · intro wS hSw
    go_simp
    try with_reducible rfl
  try simp only [List.getElem_toArray, List.getElem_cons_zero, List.getElem_cons_succ, Act.put, List.setIfInBounds_toArray, List.set_cons_zero, List.set_cons_succ]
  refine wpAnyH_take (i := 11) (v := ?_) rfl (by kernel_rfl) (by kernel_rfl) (by kernel_rfl) (fun _ _ _ h => h) (Or.inl ⟨by rfl, ?_⟩) (HP0.out) ?_
  rotate_left
  · intro wS hSw
    go_simp
    try with_reducible rfl
  try simp only [List.getElem_toArray, List.getElem_cons_zero, List.getElem_cons_succ, Act.put, List.setIfInBounds_toArray, List.set_cons_zero, List.set_cons_succ]
  refine wpAnyH_take (i := 12) (v := ?_) rfl (by kernel_rfl) (by kernel_rfl) (by kernel_rfl) (fun _ _ _ h => h) (Or.inl ⟨by rfl, ?_⟩) (HP0.out) ?_
  rotate_left
  · intro wS hSw
    go_simp
    try with_reducible rfl
  try simp only [List.getElem_toArray, List.getElem_cons_zero, List.getElem_cons_succ, Act.put, List.setIfInBounds_toArray, List.set_cons_zero, List.set_cons_succ]
  refine wpAnyH_take (i := 14) (v := ?_) rfl (by kernel_rfl) (by kernel_rfl) (by kernel_rfl) (fun _ _ _ h => h) (Or.inl ⟨by rfl, ?_⟩) (HP0.out) ?_
  rotate_left
  · intro wS hSw
    go_simp
    try with_reducible rfl
  try simp only [List.getElem_toArray, List.getElem_cons_zero, List.getElem_cons_succ, Act.put, List.setIfInBounds_toArray, List.set_cons_zero, List.set_cons_succ]
  refine wpAnyH_take (i := 3) (v := ?_) rfl (by kernel_rfl) (by kernel_rfl) (by kernel_rfl) (fun _ _ _ h => h) (Or.inl ⟨by rfl, ?_⟩) (HP0.out) ?_
  rotate_left
  · intro wS hSw
    have hcv := hSw.2
    go_simp
    try with_reducible rfl
  try simp only [List.getElem_toArray, List.getElem_cons_zero, List.getElem_cons_succ, Act.put, List.setIfInBounds_toArray, List.set_cons_zero, List.set_cons_succ]
  refine wpAnyH_take (i := 8) (v := ?_) rfl (by kernel_rfl) (by kernel_rfl) (by kernel_rfl) (fun _ _ _ h => h) (Or.inl ⟨by rfl, ?_⟩) (HP0.out) ?_
  rotate_left
  · intro wS hSw
    have hcv := hSw.1
    go_simp
    try with_reducible rfl
  try simp only [List.getElem_toArray, List.getElem_cons_zero, List.getElem_cons_succ, Act.put, List.setIfInBounds_toArray, List.set_cons_zero, List.set_cons_succ]
  refine wpAnyH_take (i := 13) (v := ?_) rfl (by kernel_rfl) (by kernel_rfl) (by kernel_rfl) (fun _ _ _ h => h) (Or.inl ⟨by rfl, ?_⟩) (HP0.out) ?_
  rotate_left
  · intro wS hSw
    have hcv := hSw.2
    go_simp
    try with_reducible rfl
  try simp only [List.getElem_toArray, List.getElem_cons_zero, List.getElem_cons_succ, Act.put, List.setIfInBounds_toArray, List.set_cons_zero, List.set_cons_succ]
  refine wpAnyH_take (i := 15) (v := ?_) rfl (by kernel_rfl) (by kernel_rfl) (by kernel_rfl) (fun _ _ _ h => h) (Or.inl ⟨by rfl, ?_⟩) (HP0.out) ?_
  rotate_left
  · intro wS hSw
    go_simp
    try with_reducible rfl
  try simp only [List.getElem_toArray, List.getElem_cons_zero, List.getElem_cons_succ, Act.put, List.setIfInBounds_toArray, List.set_cons_zero, List.set_cons_succ]
  refine wpAnyH_ready (rs := [16]) (by kernel_rfl) (by simp) ?_
  refine AllReadyH.cons rfl (fun K hK => ?_) AllReadyH.nil
  go_simp
  refine hK.out _ _ HP0.out (fun _ => ?_)
  clear hK K
  try simp only [List.getElem_toArray, List.getElem_cons_zero, List.getElem_cons_succ, Act.put, List.setIfInBounds_toArray, List.set_cons_zero, List.set_cons_succ]
  refine wpAnyH_ready (rs := [17]) (by kernel_rfl) (by simp) ?_
  refine AllReadyH.cons rfl (fun K hK => ?_) AllReadyH.nil
  go_simp
  refine (HSC.out w2.drew (below_drewN (Below.refl _ _) 1)).mono ?_
  rintro e w3 ⟨A3, n3, c3, rfl, hn3, ho3, hb3⟩
  obtain rfl : n3 = rn := by rw [← hn3, scB_length, HRL.out]
  have hb3' : Below w2.heap.size w2 w3 := (below_drewN (Below.refl _ _) 1).trans hb3
  have HK3 := Lib.hid (HK2.out.via hb3')
  have HP3 : Hid (w3.cell? ⟨gw, 0, none⟩ = some (.pointer (some ⟨g, 0, none⟩)) ∧ w3.cell? ⟨gw, 1, none⟩ = some (.slice (some ⟨gr, 0, none⟩) n c)) := Lib.hid ⟨HK3.out.b0, HK3.out.b1⟩
  have HK4 : Hid (WkI w0 g gw gr n n3 c (L.set at_ ⟨A3, n3, c3, scB d rb⟩) (w3.setCell ⟨gr, at_, none⟩ (.slice A3 n3 c3))) := Lib.hid (HK3.out.put HHL.out ⟨A3, n3, c3, scB d rb⟩ (own_lower1 ho3 (Nat.le_trans HK2.out.dat.below.size (Nat.le_refl _))) rfl 0)
  have HS4 : Hid (Same [22] w9 (w3.setCell ⟨gr, at_, none⟩ (.slice A3 n3 c3))) := Lib.hid ((HS2.out.trans (Same.below hb3')).trans (HK3.out.same_set at_ 0 _))
  have HP4 : Hid ((w3.setCell ⟨gr, at_, none⟩ (.slice A3 n3 c3)).cell? ⟨gw, 0, none⟩ = some (.pointer (some ⟨g, 0, none⟩)) ∧ (w3.setCell ⟨gr, at_, none⟩ (.slice A3 n3 c3)).cell? ⟨gw, 1, none⟩ = some (.slice (some ⟨gr, 0, none⟩) n c)) := Lib.hid ⟨HK4.out.b0, HK4.out.b1⟩
  have hcl3 := (HK3.out.dat.cell HHL.out).1
  have hfr3 := (HK3.out.dat.cell HHL.out).2
  clear hb3 hb3' ho3 hn3 hrow2
  refine hK.out _ _ HP3.out (fun _ => ?_)
  clear hK K
  try simp only [List.getElem_toArray, List.getElem_cons_zero, List.getElem_cons_succ, Act.put, List.setIfInBounds_toArray, List.set_cons_zero, List.set_cons_succ]
  refine wpAnyH_take (i := 18) (v := ?_) rfl (by kernel_rfl) (by kernel_rfl) (by kernel_rfl) (fun _ _ _ h => h) (Or.inl ⟨by rfl, ?_⟩) HP3.out ?_
  rotate_left
  · intro wS hSw
    go_simp
    try with_reducible rfl
  try simp only [List.getElem_toArray, List.getElem_cons_zero, List.getElem_cons_succ, Act.put, List.setIfInBounds_toArray, List.set_cons_zero, List.set_cons_succ]
  refine wpAnyH_ready (rs := [19]) (by kernel_rfl) (by simp) ?_
  refine AllReadyH.cons rfl (fun K hK => ?_) AllReadyH.nil
  go_simp
  refine hK.out _ _ HP4.out (fun _ => ?_)
  clear hK K
  try simp only [List.getElem_toArray, List.getElem_cons_zero, List.getElem_cons_succ, Act.put, List.setIfInBounds_toArray, List.set_cons_zero, List.set_cons_succ]
  refine wpAnyH_done (by kernel_rfl) ?_ _
  have hb14 := HK4.out.b1
  have HB4 : Hid (bsL (L.set at_ ⟨A3, n3, c3, scB d rb⟩) = Lin.cleanL (bsL L) at_ col 0) := Lib.hid (by rw [bsL_set, Lin.cleanL_zero, HHR.out])
  generalize L.set at_ ⟨A3, n3, c3, scB d rb⟩ = L4 at *
  generalize w3.setCell ⟨gr, at_, none⟩ (.slice A3 n3 c3) = w4 at *
  clear hcl3 hfr3 HK3 HP3 HP4 HSC HK2 HF2 HP0 HHR
  go_wp2
  clear hb14
  go_loopw [52] (fun i wx => ∃ (k : Nat) (Lk : List RowB), i = .int .i64 k ∧ k ≤ n ∧ Hid (WkI w0 g gw gr n n3 c Lk wx) ∧ Hid (bsL Lk = Lin.cleanL (bsL L) at_ col k) ∧ Hid (Same [22] w9 wx)) (fun i _ => n - (intOf i).toNat)
  case atStart => exact ⟨0, L4, rfl, Nat.zero_le _, HK4, HB4, HS4⟩
  case round =>
    clear HK4 HB4 HS4
    obtain ⟨k, Lk, rfl, hk, hI, hB, hS⟩ := hrel
    by_cases hlt : k < n
    · have hkL : k < Lk.length := by rw [hI.out.dat.len]; exact hlt
      have haL : at_ < Lk.length := by rw [hI.out.dat.len]; exact ha
      have hcell := (hI.out.dat.cell hkL).1
      have hfro := (hI.out.dat.cell hkL).2
      have hrow := hI.out.at hkL
      have hwd := hI.out.wid _ (List.getElem_mem hkL)
      have hbk0 := clean_row hB.out hkL
      have HST := Lib.hid (Lin.cleanL_stay (L := bsL L) (at_ := at_) (col := col) (k := k))
      by_cases hka : k = at_
      · have HB2 : Hid (bsL Lk = Lin.cleanL (bsL L) at_ col (k + 1)) := Lib.hid (by rw [HST.out (.inl hka)]; exact hB.out)
        have hkd : ((k : Int) != (at_ : Int)) = false := by simp; omega
        have hkd2 : ((k : Int) == (at_ : Int)) = true := by simp; omega
        generalize Lk[k] = r at *
        obtain ⟨RA, rm, rk, rs⟩ := r
        simp only [RowB.v] at hcell
        clear hka hB HST hwd hbk0 hfro hrow haL hkL
        go_wp2
        exact ⟨⟨k + 1, Lk, by go_num, hlt, hI, HB2, hS⟩, by simp [intOf]; omega⟩
      · have hkd : ((k : Int) != (at_ : Int)) = true := by simp; omega
        have hkd2 : ((k : Int) == (at_ : Int)) = false := by simp; omega
        have hbk := hbk0 hka
        clear hbk0
        have hkl : k < (bsL L).length := by rw [bsL_length, HLN.out]; exact hlt
        have HNX := Lib.hid (Lin.cleanL_next (L := bsL L) (at_ := at_) (col := col) hkl hka)
        have hwa := hI.out.wid _ (List.getElem_mem haL)
        have hrowa := hI.out.at haL
        have hha := clean_head hB.out haL
        have hF := hI.out.wkf haL rfl
        have hkbs : (bsL L)[k] = (bsL L).getD k [] := (Lin.getD_at hkl).symm
        generalize Lk[at_] = ra at *
        obtain ⟨AA, an, ac, as_⟩ := ra
        obtain rfl : n3 = an := hwa.symm
        simp only at hha
        generalize Lk[k] = r at *
        obtain ⟨RA, rm, rk, rs⟩ := r
        simp only [RowB.v] at hcell
        simp only at hbk
        obtain rfl : n3 = rm := hwd.symm
        have hrl : rs.length = n3 := hrow.len
        have hal : as_.length = n3 := hrowa.len
        have hac : n3 ≤ ac := hrowa.cap
        rw [hkbs, ← hbk, ← hha] at HNX
        obtain ⟨kad, hkA, _, hbyte⟩ := hrow.rd.byte (k := col) (by rw [hrl]; exact hc)
        simp only at hkA
        subst hkA
        rw [getD_0 (by rw [hrl]; exact hc)] at HNX
        have hyc : ((bsL L).getD k []).getD col 0 = rs[col]'(by rw [hrl]; exact hc) := (congrArg (fun l : List UInt8 => l.getD col 0) hbk.symm).trans (getD_0 (by rw [hrl]; exact hc))
        generalize rs[col]'(by rw [hrl]; exact hc) = y at *
        by_cases hy0 : y = 0
        · have HB2 : Hid (bsL Lk = Lin.cleanL (bsL L) at_ col (k + 1)) := Lib.hid (by rw [HST.out (.inr (hyc.trans hy0))]; exact hB.out)
          subst hy0
          clear hka hB HST hfro hrow haL hkL HNX hbk hha hF hkbs hrowa hyc hkl hal
          go_wp2
          exact ⟨⟨k + 1, Lk, by go_num, hlt, hI, HB2, hS⟩, by simp [intOf]; omega⟩
        · have hy1 := Lin.ne8 hy0
          have hyd : (((y.toNat : Nat) : Int) != 0) = true := by simp; omega
          have hyd2 : (((y.toNat : Nat) : Int) == 0) = false := by simp; omega
          have HFO := Lib.hid fun w1 (hw : Below wr.heap.size wr w1) => fldFoldF g y.toNat y.toNat_lt AA ac as_ (some kad) rk rs w1 (hI.out.full.on hw) wr.heap.size wr.heap.size (hrowa.rd.below hw) (hrow.rd.below hw) hal hrl hw.size hw.size (by omega) (by omega) hac
          have HRL := Lib.hid hrl
          have HKL := Lib.hid hkL
          have HSI := Lib.hid hI.out.dat.below.size
          have hP0 : wr.drew.cell? ⟨gw, 0, none⟩ = some (.pointer (some ⟨g, 0, none⟩)) ∧ wr.drew.cell? ⟨gw, 1, none⟩ = some (.slice (some ⟨gr, 0, none⟩) n c) ∧ wr.drew.cell? ⟨gr, at_, none⟩ = some (.slice AA n3 ac) := ⟨hF.b0, hF.b1, hF.row⟩
          have HP0 := Lib.hid hP0
          have b1' := hF.b1
          have hbyte2 : wr.drew.cell? (kad.add col) = some (.int .u8 ((y.toNat : Nat) : Int)) := hbyte
          have HPUT := Lib.hid fun w3 (hb : Below wr.heap.size wr w3) (r : RowB) (ho : w3.ownsRow w0.heap.size 5 1 (.slice r.A r.n r.c) r.n (r.bs.map bv)) (hW : r.n = n3) => WkI.put (hI.out.via hb) hkL r ho hW 0
          have HVIA := Lib.hid fun w3 (hb : Below wr.heap.size wr w3) => hI.out.via hb
          have HKA := Lib.hid hka
          have HBB := Lib.hid hB.out
          clear hka hB HST hfro hrow haL hkL hbk hha hF hkbs hrowa hyc hkl hal hI hy0 hy1 hrl hP0
          go_wp2
          clear b1' hcell hbyte
          refine wp_region_held_drew (S := (fun wQq => wQq.cell? ⟨gw, 0, none⟩ = some (.pointer (some ⟨g, 0, none⟩)) ∧ wQq.cell? ⟨gw, 1, none⟩ = some (.slice (some ⟨gr, 0, none⟩) n c) ∧ wQq.cell? ⟨gr, at_, none⟩ = some (.slice AA n3 ac))) (by kernel_rfl) (HP0.out) (fun _ => ?_)
          refine wpAnyH_take (i := 0) (v := ?_) rfl (by kernel_rfl) (by kernel_rfl) (by kernel_rfl) (fun _ _ _ h => h) (Or.inl ⟨by rfl, ?_⟩) (HP0.out) ?_
          rotate_left
          · intro wS hSw
            go_simp
            try with_reducible rfl
          try simp only [List.getElem_toArray, List.getElem_cons_zero, List.getElem_cons_succ, Act.put, List.setIfInBounds_toArray, List.set_cons_zero, List.set_cons_succ]
          refine wpAnyH_take (i := 1) (v := ?_) rfl (by kernel_rfl) (by kernel_rfl) (by kernel_rfl) (fun _ _ _ h => h) (Or.inl ⟨by rfl, ?_⟩) (HP0.out) ?_
          rotate_left
          · intro wS hSw
            go_simp
            try with_reducible rfl
          try simp only [List.getElem_toArray, List.getElem_cons_zero, List.getElem_cons_succ, Act.put, List.setIfInBounds_toArray, List.set_cons_zero, List.set_cons_succ]
          refine wpAnyH_take (i := 2) (v := ?_) rfl (by kernel_rfl) (by kernel_rfl) (by kernel_rfl) (fun _ _ _ h => h) (Or.inl ⟨by rfl, ?_⟩) (HP0.out) ?_
          rotate_left
          · intro wS hSw
            go_simp
            try with_reducible rfl
          try simp only [List.getElem_toArray, List.getElem_cons_zero, List.getElem_cons_succ, Act.put, List.setIfInBounds_toArray, List.set_cons_zero, List.set_cons_succ]
          refine wpAnyH_take (i := 4) (v := ?_) rfl (by kernel_rfl) (by kernel_rfl) (by kernel_rfl) (fun _ _ _ h => h) (Or.inl ⟨by rfl, ?_⟩) (HP0.out) ?_
          rotate_left
          · intro wS hSw
            go_simp
            try with_reducible rfl
          try simp only [List.getElem_toArray, List.getElem_cons_zero, List.getElem_cons_succ, Act.put, List.setIfInBounds_toArray, List.set_cons_zero, List.set_cons_succ]
          refine wpAnyH_take (i := 5) (v := ?_) rfl (by kernel_rfl) (by kernel_rfl) (by kernel_rfl) (fun _ _ _ h => h) (Or.inl ⟨by rfl, ?_⟩) (HP0.out) ?_
          rotate_left
          · intro wS hSw
            go_simp
            try with_reducible rfl
          try simp only [List.getElem_toArray, List.getElem_cons_zero, List.getElem_cons_succ, Act.put, List.setIfInBounds_toArray, List.set_cons_zero, List.set_cons_succ]
          refine wpAnyH_take (i := 6) (v := ?_) rfl (by kernel_rfl) (by kernel_rfl) (by kernel_rfl) (fun _ _ _ h => h) (Or.inl ⟨by rfl, ?_⟩) (HP0.out) ?_
          rotate_left
          · intro wS hSw
            go_simp
            try with_reducible rfl
          try simp only [List.getElem_toArray, List.getElem_cons_zero, List.getElem_cons_succ, Act.put, List.setIfInBounds_toArray, List.set_cons_zero, List.set_cons_succ]
          refine wpAnyH_take (i := 7) (v := ?_) rfl (by kernel_rfl) (by kernel_rfl) (by kernel_rfl) (fun _ _ _ h => h) (Or.inl ⟨by rfl, ?_⟩) (HP0.out) ?_
          rotate_left
          · intro wS hSw
            go_simp
            try with_reducible rfl
          try simp only [List.getElem_toArray, List.getElem_cons_zero, List.getElem_cons_succ, Act.put, List.setIfInBounds_toArray, List.set_cons_zero, List.set_cons_succ]
          refine wpAnyH_take (i := 9) (v := ?_) rfl (by kernel_rfl) (by kernel_rfl) (by kernel_rfl) (fun _ _ _ h => h) (Or.inl ⟨by rfl, ?_⟩) (HP0.out) ?_
          rotate_left
          · intro wS hSw
            go_simp
            try with_reducible rfl
          try simp only [List.getElem_toArray, List.getElem_cons_zero, List.getElem_cons_succ, Act.put, List.setIfInBounds_toArray, List.set_cons_zero, List.set_cons_succ]
          refine wpAnyH_take (i := 10) (v := ?_) rfl (by kernel_rfl) (by kernel_rfl) (by kernel_rfl) (fun _ _ _ h => h) (Or.inl ⟨by rfl, ?_⟩) (HP0.out) ?_
          rotate_left
          · intro wS hSw
            go_simp
            try with_reducible rfl
          try simp only [List.getElem_toArray, List.getElem_cons_zero, List.getElem_cons_succ, Act.put, List.setIfInBounds_toArray, List.set_cons_zero, List.set_cons_succ]
          refine wpAnyH_take (i := 11) (v := ?_) rfl (by kernel_rfl) (by kernel_rfl) (by kernel_rfl) (fun _ _ _ h => h) (Or.inl ⟨by rfl, ?_⟩) (HP0.out) ?_
          rotate_left
          · intro wS hSw
            go_simp
            try with_reducible rfl
          try simp only [List.getElem_toArray, List.getElem_cons_zero, List.getElem_cons_succ, Act.put, List.setIfInBounds_toArray, List.set_cons_zero, List.set_cons_succ]
          refine wpAnyH_take (i := 13) (v := ?_) rfl (by kernel_rfl) (by kernel_rfl) (by kernel_rfl) (fun _ _ _ h => h) (Or.inl ⟨by rfl, ?_⟩) (HP0.out) ?_
          rotate_left
          · intro wS hSw
            go_simp
            try with_reducible rfl
          try simp only [List.getElem_toArray, List.getElem_cons_zero, List.getElem_cons_succ, Act.put, List.setIfInBounds_toArray, List.set_cons_zero, List.set_cons_succ]
          refine wpAnyH_take (i := 14) (v := ?_) rfl (by kernel_rfl) (by kernel_rfl) (by kernel_rfl) (fun _ _ _ h => h) (Or.inl ⟨by rfl, ?_⟩) (HP0.out) ?_
          rotate_left
          · intro wS hSw
            go_simp
            try with_reducible rfl
          try simp only [List.getElem_toArray, List.getElem_cons_zero, List.getElem_cons_succ, Act.put, List.setIfInBounds_toArray, List.set_cons_zero, List.set_cons_succ]
          refine wpAnyH_take (i := 15) (v := ?_) rfl (by kernel_rfl) (by kernel_rfl) (by kernel_rfl) (fun _ _ _ h => h) (Or.inl ⟨by rfl, ?_⟩) (HP0.out) ?_
          rotate_left
          · intro wS hSw
            go_simp
            try with_reducible rfl
          try simp only [List.getElem_toArray, List.getElem_cons_zero, List.getElem_cons_succ, Act.put, List.setIfInBounds_toArray, List.set_cons_zero, List.set_cons_succ]
          refine wpAnyH_take (i := 17) (v := ?_) rfl (by kernel_rfl) (by kernel_rfl) (by kernel_rfl) (fun _ _ _ h => h) (Or.inl ⟨by rfl, ?_⟩) (HP0.out) ?_
          rotate_left
          · intro wS hSw
            go_simp
            try with_reducible rfl
          try simp only [List.getElem_toArray, List.getElem_cons_zero, List.getElem_cons_succ, Act.put, List.setIfInBounds_toArray, List.set_cons_zero, List.set_cons_succ]
          refine wpAnyH_take (i := 20) (v := ?_) rfl (by kernel_rfl) (by kernel_rfl) (by kernel_rfl) (fun _ _ _ h => h) (Or.inl ⟨by rfl, ?_⟩) (HP0.out) ?_
          rotate_left
          · intro wS hSw
            go_simp
            try with_reducible rfl
          try simp only [List.getElem_toArray, List.getElem_cons_zero, List.getElem_cons_succ, Act.put, List.setIfInBounds_toArray, List.set_cons_zero, List.set_cons_succ]
          refine wpAnyH_take (i := 3) (v := ?_) rfl (by kernel_rfl) (by kernel_rfl) (by kernel_rfl) (fun _ _ _ h => h) (Or.inl ⟨by rfl, ?_⟩) (HP0.out) ?_
          rotate_left
          · intro wS hSw
            have hcv := hSw.2.1
            go_simp
            try with_reducible rfl
          try simp only [List.getElem_toArray, List.getElem_cons_zero, List.getElem_cons_succ, Act.put, List.setIfInBounds_toArray, List.set_cons_zero, List.set_cons_succ]
          refine wpAnyH_take (i := 8) (v := ?_) rfl (by kernel_rfl) (by kernel_rfl) (by kernel_rfl) (fun _ _ _ h => h) (Or.inl ⟨by rfl, ?_⟩) (HP0.out) ?_
          rotate_left
          · intro wS hSw
            have hcv := hSw.1
            go_simp
            try with_reducible rfl
          try simp only [List.getElem_toArray, List.getElem_cons_zero, List.getElem_cons_succ, Act.put, List.setIfInBounds_toArray, List.set_cons_zero, List.set_cons_succ]
          refine wpAnyH_take (i := 16) (v := ?_) rfl (by kernel_rfl) (by kernel_rfl) (by kernel_rfl) (fun _ _ _ h => h) (Or.inl ⟨by rfl, ?_⟩) (HP0.out) ?_
          rotate_left
          · intro wS hSw
            have hcv := hSw.2.1
            go_simp
            try with_reducible rfl
          try simp only [List.getElem_toArray, List.getElem_cons_zero, List.getElem_cons_succ, Act.put, List.setIfInBounds_toArray, List.set_cons_zero, List.set_cons_succ]
          refine wpAnyH_take (i := 18) (v := ?_) rfl (by kernel_rfl) (by kernel_rfl) (by kernel_rfl) (fun _ _ _ h => h) (Or.inl ⟨by rfl, ?_⟩) (HP0.out) ?_
          rotate_left
          · intro wS hSw
            go_simp
            try with_reducible rfl
          try simp only [List.getElem_toArray, List.getElem_cons_zero, List.getElem_cons_succ, Act.put, List.setIfInBounds_toArray, List.set_cons_zero, List.set_cons_succ]
          refine wpAnyH_take (i := 19) (v := ?_) rfl (by kernel_rfl) (by kernel_rfl) (by kernel_rfl) (fun _ _ _ h => h) (Or.inl ⟨by rfl, ?_⟩) (HP0.out) ?_
          rotate_left
          · intro wS hSw
            have hcv := hSw.2.2
            go_simp
            try with_reducible rfl
          try simp only [List.getElem_toArray, List.getElem_cons_zero, List.getElem_cons_succ, Act.put, List.setIfInBounds_toArray, List.set_cons_zero, List.set_cons_succ]
          refine wpAnyH_ready (rs := [12]) (by kernel_rfl) (by simp) ?_
          refine AllReadyH.cons rfl (fun K hK => ?_) AllReadyH.nil
          go_simp
          refine hK.out _ _ HP0.out (fun _ => ?_)
          clear hK K
          try simp only [List.getElem_toArray, List.getElem_cons_zero, List.getElem_cons_succ, Act.put, List.setIfInBounds_toArray, List.set_cons_zero, List.set_cons_succ]
          refine wpAnyH_ready (rs := [21]) (by kernel_rfl) (by simp) ?_
          refine AllReadyH.cons rfl (fun K hK => ?_) AllReadyH.nil
          go_simp
          refine (HFO.out wr.drew (below_drewN (Below.refl _ _) 1)).mono ?_
          rintro e w3 ⟨A3, m3, c3, rfl, hm3, ho3, hb3⟩
          obtain rfl : n3 = m3 := by rw [← hm3, foB_length, HRL.out]
          have hb3' : Below wr.heap.size wr w3 := (below_drewN (Below.refl _ _) 1).trans hb3
          have HK3 := Lib.hid (HVIA.out w3 hb3')
          have HP3 : Hid (w3.cell? ⟨gw, 0, none⟩ = some (.pointer (some ⟨g, 0, none⟩)) ∧ w3.cell? ⟨gw, 1, none⟩ = some (.slice (some ⟨gr, 0, none⟩) n c) ∧ w3.cell? ⟨gr, at_, none⟩ = some (.slice AA n3 ac)) := Lib.hid ⟨HK3.out.b0, HK3.out.b1, (hb3'.cell (block_lt_of_cell HP0.out.2.2)).trans HP0.out.2.2⟩
          have HS4 : Hid (Same [22] w9 (w3.setCell ⟨gr, k, none⟩ (.slice A3 n3 c3))) := Lib.hid ((hS.out.trans (Same.below hb3')).trans (HK3.out.same_set k 0 _))
          have HK4 : Hid (WkI w0 g gw gr n n3 c (Lk.set k ⟨A3, n3, c3, foB y.toNat as_ rs⟩) (w3.setCell ⟨gr, k, none⟩ (.slice A3 n3 c3))) := Lib.hid (HPUT.out w3 hb3' ⟨A3, n3, c3, foB y.toNat as_ rs⟩ (own_lower1 ho3 HSI.out) rfl)
          have HP4 : Hid ((w3.setCell ⟨gr, k, none⟩ (.slice A3 n3 c3)).cell? ⟨gw, 0, none⟩ = some (.pointer (some ⟨g, 0, none⟩)) ∧ (w3.setCell ⟨gr, k, none⟩ (.slice A3 n3 c3)).cell? ⟨gw, 1, none⟩ = some (.slice (some ⟨gr, 0, none⟩) n c) ∧ (w3.setCell ⟨gr, k, none⟩ (.slice A3 n3 c3)).cell? ⟨gr, at_, none⟩ = some (.slice AA n3 ac)) := Lib.hid ⟨HK4.out.b0, HK4.out.b1, (World.cell?_setCell_other w3 ⟨gr, k, none⟩ ⟨gr, at_, none⟩ _ (fun e => HKA.out (by cases e; rfl))).trans HP3.out.2.2⟩
          have hcl3 := (HK3.out.dat.cell HKL.out).1
          have hfr3 := (HK3.out.dat.cell HKL.out).2
          clear hb3 hb3' ho3 hm3 hbyte2
          refine hK.out _ _ HP3.out (fun _ => ?_)
          clear hK K
          try simp only [List.getElem_toArray, List.getElem_cons_zero, List.getElem_cons_succ, Act.put, List.setIfInBounds_toArray, List.set_cons_zero, List.set_cons_succ]
          refine wpAnyH_take (i := 22) (v := ?_) rfl (by kernel_rfl) (by kernel_rfl) (by kernel_rfl) (fun _ _ _ h => h) (Or.inl ⟨by rfl, ?_⟩) HP3.out ?_
          rotate_left
          · intro wS hSw
            go_simp
            try with_reducible rfl
          try simp only [List.getElem_toArray, List.getElem_cons_zero, List.getElem_cons_succ, Act.put, List.setIfInBounds_toArray, List.set_cons_zero, List.set_cons_succ]
          refine wpAnyH_ready (rs := [23]) (by kernel_rfl) (by simp) ?_
          refine AllReadyH.cons rfl (fun K hK => ?_) AllReadyH.nil
          go_simp
          refine hK.out _ _ HP4.out (fun _ => ?_)
          clear hK K
          try simp only [List.getElem_toArray, List.getElem_cons_zero, List.getElem_cons_succ, Act.put, List.setIfInBounds_toArray, List.set_cons_zero, List.set_cons_succ]
          refine wpAnyH_done (by kernel_rfl) ?_ _
          have HB4 : Hid (bsL (Lk.set k ⟨A3, n3, c3, foB y.toNat as_ rs⟩) = Lin.cleanL (bsL L) at_ col (k + 1)) := Lib.hid (by rw [bsL_set, HBB.out, HNX.out])
          generalize Lk.set k ⟨A3, n3, c3, foB y.toNat as_ rs⟩ = L4 at *
          generalize w3.setCell ⟨gr, k, none⟩ (.slice A3 n3 c3) = w4 at *
          clear hcl3 hfr3 HK3 HP3 HP4 HFO HPUT HVIA HP0
          go_wp2
          exact ⟨⟨k + 1, L4, by go_num, hlt, HK4, HB4, HS4⟩, by simp [intOf]; omega⟩
    · obtain rfl : k = n := by omega
      clear hlt
      go_wp2
      first | go_end0 | (simp only [Exit.inBlock, Exit.then]; refine bodyPost_ret (results_none rfl _ _ _) rfl ?_) | refine bodyPost_ret (results_none rfl _ _ _) rfl ?_
      exact ⟨rfl, Lk, hI.out, hB.out, hS.out⟩
end Cib

end
/-! MatZ -/
section
set_option linter.unusedVariables false
set_option linter.unusedSimpArgs false
set_option maxRecDepth 40000
namespace Cib
open Go Go.RowKit Go.Proofs
/-- Two rows in each other's place. -/
def swapR (L : List RowB) (a b : Nat) (ra rb : RowB) : List RowB := (L.set a rb).set b ra
theorem swapR_bs {L : List RowB} {a b : Nat} (ha : a < L.length) (hb : b < L.length) : bsL (swapR L a b L[a] L[b]) = Lin.swapL (bsL L) a b := by
  unfold swapR Lin.swapL
  rw [bsL_set, bsL_set, bsL_get ha, bsL_get hb]
theorem WkI.wid' {w0 wr : World} {g gw gr n W c : Nat} {L : List RowB} (h : WkI w0 g gw gr n W c L wr) : Lin.Wid W (bsL L) := fun r hr => by
  obtain ⟨s, hs, rfl⟩ := List.mem_map.1 hr
  rw [← h.wid s hs]
  exact (h.dat.at s hs).len
set_option maxHeartbeats 4000000 in
theorem matElim {w0 wr : World} {g gw gr n W c : Nat} {L : List RowB} (h : WkI w0 g gw gr n W c L wr) (cols : Nat) (hcw : cols ≤ W) (hn : n ≤ 65536) (hW : W ≤ 65536) :
    Calls Try.prog 93 #[.pointer (some ⟨gw, 0, none⟩), .int .i64 (cols : Int)] wr fun e w' => ∃ (r : Nat) (L' : List RowB), e = .returned (.int .i64 (r : Int)) ∧ WkI w0 g gw gr n W c L' w' ∧ Lin.Elm n W (Lin.ent (bsL L)) cols r (Lin.ent (bsL L')) ∧ Same [22] wr w' := by
  obtain ⟨w9, hw9⟩ : ∃ w, w = wr := ⟨_, rfl⟩
  rw [← hw9]
  rw [← hw9] at h
  clear hw9
  have HI0 := Lib.hid h
  obtain ⟨T0, hT0⟩ : ∃ T, Lin.ent (bsL L) = T := ⟨_, rfl⟩
  have HE0 : Hid (Lin.Elm n W T0 0 0 (Lin.ent (bsL L))) := Lib.hid (by rw [← hT0]; exact Lin.Elm.start)
  rw [hT0]
  clear h hT0
  go_enter Try.func93, Try.ntmps93
  go_wp2
  go_loopw [5, 9] (fun d i wx => ∃ (k r : Nat) (Lk : List RowB), d = .int .i64 r ∧ i = .int .i64 k ∧ k ≤ cols ∧ r ≤ n ∧ Hid (WkI w0 g gw gr n W c Lk wx) ∧ Hid (Lin.Elm n W T0 k r (Lin.ent (bsL Lk))) ∧ Hid (Same [22] w9 wx)) (fun _ i _ => cols - (intOf i).toNat)
  case atStart => exact ⟨0, 0, L, rfl, rfl, Nat.zero_le _, Nat.zero_le _, HI0, HE0, Lib.hid (Same.refl _ _)⟩
  case round =>
    clear HI0 HE0
    obtain ⟨k, r, Lk, rfl, rfl, hk, hr, hI, hE, hS⟩ := hrel
    by_cases hlt : k < cols
    · have b1 := hI.out.b1
      by_cases hrn : r = n
      · have HF : Hid (Lin.Elm n W T0 cols r (Lin.ent (bsL Lk))) := Lib.hid (by
          have := hE.out
          subst hrn
          exact this.full hk)
        subst hrn
        clear hE
        go_wp2
        go_ret
        exact ⟨r, Lk, rfl, hI.out, HF.out, hS.out⟩
      · have hrl : r < n := by omega
        have hrd : ((r : Int) == (n : Int)) = false := by simp; omega
        have HPV := Lib.hid (matPivot hI.out r k (by omega) (by omega) hn hW)
        have HLN := Lib.hid hI.out.dat.len
        clear hrn
        go_wp2_with fail
        refine HPV.out.mono ?_
        rintro e w2 ⟨hpv, rfl⟩
        clear HPV
        rcases hpv with ⟨rfl, hz⟩ | ⟨q, rfl, hq1, hq2, hq3⟩
        · have HS : Hid (Lin.Elm n W T0 (k + 1) r (Lin.ent (bsL Lk))) := Lib.hid (hE.out.skip fun i h1 h2 => hz i h1 (by rw [bsL_length, HLN.out]; exact h2))
          clear hz hE b1
          go_wp2
          exact ⟨⟨k + 1, r, Lk, rfl, by go_num, hlt, hr, hI, HS, hS⟩, by simp [intOf]; omega⟩
        · rw [bsL_length, HLN.out] at hq2
          have hqL : q < Lk.length := by rw [HLN.out]; exact hq2
          have hrL : r < Lk.length := by rw [HLN.out]; exact hrl
          have HCE := Lib.hid (hE.out.clean (by rw [bsL_length]; exact HLN.out) hI.out.wid' hrl hq1 hq2 hq3 (by omega))
          have HSB := Lib.hid (swapR_bs hrL hqL)
          have HQ3 : Hid (Lin.ent (Lin.swapL (bsL Lk) r q) r k ≠ 0) := Lib.hid (by
            rw [Lin.swapL_ent (by rw [bsL_length]; exact hrL) (by rw [bsL_length]; exact hqL) (by rw [bsL_length]; exact hrL)]
            rw [show Lin.sw r q r = q from if_pos rfl]
            exact hq3)
          have cq := (hI.out.dat.cell hqL).1
          have cr := (hI.out.dat.cell hrL).1
          have fq := (hI.out.dat.cell hqL).2
          have fr := (hI.out.dat.cell hrL).2
          have hwq := hI.out.wid _ (List.getElem_mem hqL)
          have hwr := hI.out.wid _ (List.getElem_mem hrL)
          have hoq := hI.out.dat.rows _ (List.getElem_mem hqL)
          have hor := hI.out.dat.rows _ (List.getElem_mem hrL)
          have HK1 := Lib.hid (hI.out.put hrL Lk[q] hoq hwq 1)
          generalize hRQ : Lk[q] = rq at *
          generalize hRR : Lk[r] = rr at *
          obtain ⟨Aq, nq, kq, sq⟩ := rq
          obtain ⟨Ar, nr, kr, sr⟩ := rr
          simp only [RowB.v] at cq cr
          simp only at hwq hwr
          have HS2 : Hid (Same [22] w9 ((w2.drew.setCell ⟨gr, r, none⟩ (.slice Aq nq kq)).setCell ⟨gr, q, none⟩ (.slice Ar nr kr))) := Lib.hid ((hS.out.trans (hI.out.same_set r 1 _)).trans (HK1.out.same_set q 0 _))
          have hor1 : (w2.drew.setCell ⟨gr, r, none⟩ (.slice Aq nq kq)).ownsRow w0.heap.size 5 1 (.slice Ar nr kr) nr (sr.map bv) := ownsRow_setCell_other (w := w2.drew) hor (fun he => own_apart hor hI.out.dat.own he) _
          have HK2 : Hid (WkI w0 g gw gr n W c (swapR Lk r q ⟨Ar, nr, kr, sr⟩ ⟨Aq, nq, kq, sq⟩) ((w2.drew.setCell ⟨gr, r, none⟩ (.slice Aq nq kq)).setCell ⟨gr, q, none⟩ (.slice Ar nr kr))) := Lib.hid (HK1.out.put (by rw [List.length_set]; exact hqL) ⟨Ar, nr, kr, sr⟩ hor1 hwr 0)
          obtain ⟨uq, cq1⟩ : ∃ u, (w2.setCell ⟨gr, r, none⟩ (.slice Aq nq kq)).cell? ⟨gr, q, none⟩ = some u := ⟨_, (HK1.out.dat.cell (j := q) (by rw [List.length_set]; exact hqL)).1⟩
          have fq1 : (w2.setCell ⟨gr, r, none⟩ (.slice Aq nq kq)).frozen? ⟨gr, q, none⟩ = false := (HK1.out.dat.cell (j := q) (by rw [List.length_set]; exact hqL)).2
          have HP0 : Hid (w2.drew.cell? ⟨gw, 1, none⟩ = some (.slice (some ⟨gr, 0, none⟩) n c)) := Lib.hid hI.out.b1
          have HP1 : Hid ((w2.drew.setCell ⟨gr, r, none⟩ (.slice Aq nq kq)).cell? ⟨gw, 1, none⟩ = some (.slice (some ⟨gr, 0, none⟩) n c)) := Lib.hid HK1.out.b1
          have HP2 : Hid (((w2.drew.setCell ⟨gr, r, none⟩ (.slice Aq nq kq)).setCell ⟨gr, q, none⟩ (.slice Ar nr kr)).cell? ⟨gw, 1, none⟩ = some (.slice (some ⟨gr, 0, none⟩) n c)) := Lib.hid HK2.out.b1
          have cqd : w2.drew.cell? ⟨gr, q, none⟩ = some (.slice Aq nq kq) := cq
          have crd : w2.drew.cell? ⟨gr, r, none⟩ = some (.slice Ar nr kr) := cr
          have frd : w2.drew.frozen? ⟨gr, r, none⟩ = false := fr
          clear hwq hwr hoq hor hor1 hq1 hq3 cq cr fr fq hE hI HK1 b1 hrd hRQ hRR
          go_upto_region 9 with fail
          go_cut [5] (fun d wx => d = .int .i64 (r : Int) ∧ wx = (w2.drew.setCell ⟨gr, r, none⟩ (.slice Aq nq kq)).setCell ⟨gr, q, none⟩ (.slice Ar nr kr))
          case first =>
            go_wp2
            refine wp_region_held_drew (S := (fun wQq => wQq.cell? ⟨gw, 1, none⟩ = some (.slice (some ⟨gr, 0, none⟩) n c))) (by kernel_rfl) (HP0.out) (fun _ => ?_)
            refine wpAnyH_take (i := 0) (v := ?_) rfl (by kernel_rfl) (by kernel_rfl) (by kernel_rfl) (fun _ _ _ h => h) (Or.inl ⟨by rfl, ?_⟩) (HP0.out) ?_
            rotate_left
            · intro wS hSw
              go_simp
              try with_reducible rfl
            try simp only [List.getElem_toArray, List.getElem_cons_zero, List.getElem_cons_succ, Act.put, List.setIfInBounds_toArray, List.set_cons_zero, List.set_cons_succ]
            refine wpAnyH_take (i := 1) (v := ?_) rfl (by kernel_rfl) (by kernel_rfl) (by kernel_rfl) (fun _ _ _ h => h) (Or.inl ⟨by rfl, ?_⟩) (HP0.out) ?_
            rotate_left
            · intro wS hSw
              go_simp
              try with_reducible rfl
            try simp only [List.getElem_toArray, List.getElem_cons_zero, List.getElem_cons_succ, Act.put, List.setIfInBounds_toArray, List.set_cons_zero, List.set_cons_succ]
            refine wpAnyH_take (i := 2) (v := ?_) rfl (by kernel_rfl) (by kernel_rfl) (by kernel_rfl) (fun _ _ _ h => h) (Or.inl ⟨by rfl, ?_⟩) (HP0.out) ?_
            rotate_left
            · intro wS hSw
              go_simp
              try with_reducible rfl
            try simp only [List.getElem_toArray, List.getElem_cons_zero, List.getElem_cons_succ, Act.put, List.setIfInBounds_toArray, List.set_cons_zero, List.set_cons_succ]
            refine wpAnyH_take (i := 4) (v := ?_) rfl (by kernel_rfl) (by kernel_rfl) (by kernel_rfl) (fun _ _ _ h => h) (Or.inl ⟨by rfl, ?_⟩) (HP0.out) ?_
            rotate_left
            · intro wS hSw
              go_simp
              try with_reducible rfl
            try simp only [List.getElem_toArray, List.getElem_cons_zero, List.getElem_cons_succ, Act.put, List.setIfInBounds_toArray, List.set_cons_zero, List.set_cons_succ]
            refine wpAnyH_take (i := 5) (v := ?_) rfl (by kernel_rfl) (by kernel_rfl) (by kernel_rfl) (fun _ _ _ h => h) (Or.inl ⟨by rfl, ?_⟩) (HP0.out) ?_
            rotate_left
            · intro wS hSw
              go_simp
              try with_reducible rfl
            try simp only [List.getElem_toArray, List.getElem_cons_zero, List.getElem_cons_succ, Act.put, List.setIfInBounds_toArray, List.set_cons_zero, List.set_cons_succ]
            refine wpAnyH_take (i := 6) (v := ?_) rfl (by kernel_rfl) (by kernel_rfl) (by kernel_rfl) (fun _ _ _ h => h) (Or.inl ⟨by rfl, ?_⟩) (HP0.out) ?_
            rotate_left
            · intro wS hSw
              go_simp
              try with_reducible rfl
            try simp only [List.getElem_toArray, List.getElem_cons_zero, List.getElem_cons_succ, Act.put, List.setIfInBounds_toArray, List.set_cons_zero, List.set_cons_succ]
            refine wpAnyH_take (i := 7) (v := ?_) rfl (by kernel_rfl) (by kernel_rfl) (by kernel_rfl) (fun _ _ _ h => h) (Or.inl ⟨by rfl, ?_⟩) (HP0.out) ?_
            rotate_left
            · intro wS hSw
              go_simp
              try with_reducible rfl
            try simp only [List.getElem_toArray, List.getElem_cons_zero, List.getElem_cons_succ, Act.put, List.setIfInBounds_toArray, List.set_cons_zero, List.set_cons_succ]
            refine wpAnyH_take (i := 9) (v := ?_) rfl (by kernel_rfl) (by kernel_rfl) (by kernel_rfl) (fun _ _ _ h => h) (Or.inl ⟨by rfl, ?_⟩) (HP0.out) ?_
            rotate_left
            · intro wS hSw
              go_simp
              try with_reducible rfl
            try simp only [List.getElem_toArray, List.getElem_cons_zero, List.getElem_cons_succ, Act.put, List.setIfInBounds_toArray, List.set_cons_zero, List.set_cons_succ]
            refine wpAnyH_take (i := 10) (v := ?_) rfl (by kernel_rfl) (by kernel_rfl) (by kernel_rfl) (fun _ _ _ h => h) (Or.inl ⟨by rfl, ?_⟩) (HP0.out) ?_
            rotate_left
            · intro wS hSw
              go_simp
              try with_reducible rfl
            try simp only [List.getElem_toArray, List.getElem_cons_zero, List.getElem_cons_succ, Act.put, List.setIfInBounds_toArray, List.set_cons_zero, List.set_cons_succ]
            refine wpAnyH_take (i := 11) (v := ?_) rfl (by kernel_rfl) (by kernel_rfl) (by kernel_rfl) (fun _ _ _ h => h) (Or.inl ⟨by rfl, ?_⟩) (HP0.out) ?_
            rotate_left
            · intro wS hSw
              go_simp
              try with_reducible rfl
            try simp only [List.getElem_toArray, List.getElem_cons_zero, List.getElem_cons_succ, Act.put, List.setIfInBounds_toArray, List.set_cons_zero, List.set_cons_succ]
            refine wpAnyH_take (i := 12) (v := ?_) rfl (by kernel_rfl) (by kernel_rfl) (by kernel_rfl) (fun _ _ _ h => h) (Or.inl ⟨by rfl, ?_⟩) (HP0.out) ?_
            rotate_left
            · intro wS hSw
              go_simp
              try with_reducible rfl
            try simp only [List.getElem_toArray, List.getElem_cons_zero, List.getElem_cons_succ, Act.put, List.setIfInBounds_toArray, List.set_cons_zero, List.set_cons_succ]
            refine wpAnyH_take (i := 14) (v := ?_) rfl (by kernel_rfl) (by kernel_rfl) (by kernel_rfl) (fun _ _ _ h => h) (Or.inl ⟨by rfl, ?_⟩) (HP0.out) ?_
            rotate_left
            · intro wS hSw
              go_simp
              try with_reducible rfl
            try simp only [List.getElem_toArray, List.getElem_cons_zero, List.getElem_cons_succ, Act.put, List.setIfInBounds_toArray, List.set_cons_zero, List.set_cons_succ]
            refine wpAnyH_take (i := 17) (v := ?_) rfl (by kernel_rfl) (by kernel_rfl) (by kernel_rfl) (fun _ _ _ h => h) (Or.inl ⟨by rfl, ?_⟩) (HP0.out) ?_
            rotate_left
            · intro wS hSw
              go_simp
              try with_reducible rfl
            try simp only [List.getElem_toArray, List.getElem_cons_zero, List.getElem_cons_succ, Act.put, List.setIfInBounds_toArray, List.set_cons_zero, List.set_cons_succ]
            refine wpAnyH_take (i := 18) (v := ?_) rfl (by kernel_rfl) (by kernel_rfl) (by kernel_rfl) (fun _ _ _ h => h) (Or.inl ⟨by rfl, ?_⟩) (HP0.out) ?_
            rotate_left
            · intro wS hSw
              go_simp
              try with_reducible rfl
            try simp only [List.getElem_toArray, List.getElem_cons_zero, List.getElem_cons_succ, Act.put, List.setIfInBounds_toArray, List.set_cons_zero, List.set_cons_succ]
            refine wpAnyH_take (i := 19) (v := ?_) rfl (by kernel_rfl) (by kernel_rfl) (by kernel_rfl) (fun _ _ _ h => h) (Or.inl ⟨by rfl, ?_⟩) (HP0.out) ?_
            rotate_left
            · intro wS hSw
              go_simp
              try with_reducible rfl
            try simp only [List.getElem_toArray, List.getElem_cons_zero, List.getElem_cons_succ, Act.put, List.setIfInBounds_toArray, List.set_cons_zero, List.set_cons_succ]
            refine wpAnyH_take (i := 21) (v := ?_) rfl (by kernel_rfl) (by kernel_rfl) (by kernel_rfl) (fun _ _ _ h => h) (Or.inl ⟨by rfl, ?_⟩) (HP0.out) ?_
            rotate_left
            · intro wS hSw
              go_simp
              try with_reducible rfl
            try simp only [List.getElem_toArray, List.getElem_cons_zero, List.getElem_cons_succ, Act.put, List.setIfInBounds_toArray, List.set_cons_zero, List.set_cons_succ]
            refine wpAnyH_take (i := 3) (v := ?_) rfl (by kernel_rfl) (by kernel_rfl) (by kernel_rfl) (fun _ _ _ h => h) (Or.inl ⟨by rfl, ?_⟩) (HP0.out) ?_
            rotate_left
            · intro wS hSw
              have hcv := hSw
              go_simp
              try with_reducible rfl
            try simp only [List.getElem_toArray, List.getElem_cons_zero, List.getElem_cons_succ, Act.put, List.setIfInBounds_toArray, List.set_cons_zero, List.set_cons_succ]
            refine wpAnyH_take (i := 8) (v := ?_) rfl (by kernel_rfl) (by kernel_rfl) (by kernel_rfl) (fun _ _ _ h => h) (Or.inl ⟨by rfl, ?_⟩) (HP0.out) ?_
            rotate_left
            · intro wS hSw
              have hcv := hSw
              go_simp
              try with_reducible rfl
            try simp only [List.getElem_toArray, List.getElem_cons_zero, List.getElem_cons_succ, Act.put, List.setIfInBounds_toArray, List.set_cons_zero, List.set_cons_succ]
            refine wpAnyH_take (i := 13) (v := ?_) rfl (by kernel_rfl) (by kernel_rfl) (by kernel_rfl) (fun _ _ _ h => h) (Or.inl ⟨by rfl, ?_⟩) (HP0.out) ?_
            rotate_left
            · intro wS hSw
              have hcv := hSw
              go_simp
              try with_reducible rfl
            try simp only [List.getElem_toArray, List.getElem_cons_zero, List.getElem_cons_succ, Act.put, List.setIfInBounds_toArray, List.set_cons_zero, List.set_cons_succ]
            refine wpAnyH_take (i := 15) (v := ?_) rfl (by kernel_rfl) (by kernel_rfl) (by kernel_rfl) (fun _ _ _ h => h) (Or.inl ⟨by rfl, ?_⟩) (HP0.out) ?_
            rotate_left
            · intro wS hSw
              go_simp
              try with_reducible rfl
            try simp only [List.getElem_toArray, List.getElem_cons_zero, List.getElem_cons_succ, Act.put, List.setIfInBounds_toArray, List.set_cons_zero, List.set_cons_succ]
            refine wpAnyH_take (i := 20) (v := ?_) rfl (by kernel_rfl) (by kernel_rfl) (by kernel_rfl) (fun _ _ _ h => h) (Or.inl ⟨by rfl, ?_⟩) (HP0.out) ?_
            rotate_left
            · intro wS hSw
              have hcv := hSw
              go_simp
              try with_reducible rfl
            try simp only [List.getElem_toArray, List.getElem_cons_zero, List.getElem_cons_succ, Act.put, List.setIfInBounds_toArray, List.set_cons_zero, List.set_cons_succ]
            refine wpAnyH_take (i := 22) (v := ?_) rfl (by kernel_rfl) (by kernel_rfl) (by kernel_rfl) (fun _ _ _ h => h) (Or.inl ⟨by rfl, ?_⟩) (HP0.out) ?_
            rotate_left
            · intro wS hSw
              go_simp
              try with_reducible rfl
            try simp only [List.getElem_toArray, List.getElem_cons_zero, List.getElem_cons_succ, Act.put, List.setIfInBounds_toArray, List.set_cons_zero, List.set_cons_succ]
            refine wpAnyH_ready (rs := [16, 23]) (by kernel_rfl) (by simp) ?_
            refine AllReadyH.cons rfl (fun K hK => ?_) (AllReadyH.cons rfl (fun K hK => ?_) AllReadyH.nil)
            · go_simp
              refine hK.out _ _ HP0.out (fun _ => ?_)
              clear hK K
              try simp only [List.getElem_toArray, List.getElem_cons_zero, List.getElem_cons_succ, Act.put, List.setIfInBounds_toArray, List.set_cons_zero, List.set_cons_succ]
              refine wpAnyH_ready (rs := [23]) (by kernel_rfl) (by simp) ?_
              refine AllReadyH.cons rfl (fun K hK => ?_) AllReadyH.nil
              go_simp
              refine hK.out _ _ HP0.out (fun _ => ?_)
              clear hK K
              try simp only [List.getElem_toArray, List.getElem_cons_zero, List.getElem_cons_succ, Act.put, List.setIfInBounds_toArray, List.set_cons_zero, List.set_cons_succ]
              refine wpAnyH_take (i := 24) (v := ?_) rfl (by kernel_rfl) (by kernel_rfl) (by kernel_rfl) (fun _ _ _ h => h) (Or.inl ⟨by rfl, ?_⟩) HP0.out ?_
              rotate_left
              · intro wS hSw
                go_simp
                try with_reducible rfl
              try simp only [List.getElem_toArray, List.getElem_cons_zero, List.getElem_cons_succ, Act.put, List.setIfInBounds_toArray, List.set_cons_zero, List.set_cons_succ]
              refine wpAnyH_ready (rs := [25]) (by kernel_rfl) (by simp) ?_
              refine AllReadyH.cons rfl (fun K hK => ?_) AllReadyH.nil
              go_simp
              refine hK.out _ _ HP1.out (fun _ => ?_)
              clear hK K
              try simp only [List.getElem_toArray, List.getElem_cons_zero, List.getElem_cons_succ, Act.put, List.setIfInBounds_toArray, List.set_cons_zero, List.set_cons_succ]
              refine wpAnyH_take (i := 26) (v := ?_) rfl (by kernel_rfl) (by kernel_rfl) (by kernel_rfl) (fun _ _ _ h => h) (Or.inl ⟨by rfl, ?_⟩) HP1.out ?_
              rotate_left
              · intro wS hSw
                go_simp
                try with_reducible rfl
              try simp only [List.getElem_toArray, List.getElem_cons_zero, List.getElem_cons_succ, Act.put, List.setIfInBounds_toArray, List.set_cons_zero, List.set_cons_succ]
              refine wpAnyH_ready (rs := [27]) (by kernel_rfl) (by simp) ?_
              refine AllReadyH.cons rfl (fun K hK => ?_) AllReadyH.nil
              go_simp
              refine hK.out _ _ HP2.out (fun _ => ?_)
              clear hK K
              try simp only [List.getElem_toArray, List.getElem_cons_zero, List.getElem_cons_succ, Act.put, List.setIfInBounds_toArray, List.set_cons_zero, List.set_cons_succ]
              refine wpAnyH_done (by kernel_rfl) ?_ _
              first | go_meet | (go_wp2_with fail; go_meet)
              exact ⟨rfl, rfl⟩
            · go_simp
              refine hK.out _ _ HP0.out (fun _ => ?_)
              clear hK K
              try simp only [List.getElem_toArray, List.getElem_cons_zero, List.getElem_cons_succ, Act.put, List.setIfInBounds_toArray, List.set_cons_zero, List.set_cons_succ]
              refine wpAnyH_ready (rs := [16]) (by kernel_rfl) (by simp) ?_
              refine AllReadyH.cons rfl (fun K hK => ?_) AllReadyH.nil
              go_simp
              refine hK.out _ _ HP0.out (fun _ => ?_)
              clear hK K
              try simp only [List.getElem_toArray, List.getElem_cons_zero, List.getElem_cons_succ, Act.put, List.setIfInBounds_toArray, List.set_cons_zero, List.set_cons_succ]
              refine wpAnyH_take (i := 24) (v := ?_) rfl (by kernel_rfl) (by kernel_rfl) (by kernel_rfl) (fun _ _ _ h => h) (Or.inl ⟨by rfl, ?_⟩) HP0.out ?_
              rotate_left
              · intro wS hSw
                go_simp
                try with_reducible rfl
              try simp only [List.getElem_toArray, List.getElem_cons_zero, List.getElem_cons_succ, Act.put, List.setIfInBounds_toArray, List.set_cons_zero, List.set_cons_succ]
              refine wpAnyH_ready (rs := [25]) (by kernel_rfl) (by simp) ?_
              refine AllReadyH.cons rfl (fun K hK => ?_) AllReadyH.nil
              go_simp
              refine hK.out _ _ HP1.out (fun _ => ?_)
              clear hK K
              try simp only [List.getElem_toArray, List.getElem_cons_zero, List.getElem_cons_succ, Act.put, List.setIfInBounds_toArray, List.set_cons_zero, List.set_cons_succ]
              refine wpAnyH_take (i := 26) (v := ?_) rfl (by kernel_rfl) (by kernel_rfl) (by kernel_rfl) (fun _ _ _ h => h) (Or.inl ⟨by rfl, ?_⟩) HP1.out ?_
              rotate_left
              · intro wS hSw
                go_simp
                try with_reducible rfl
              try simp only [List.getElem_toArray, List.getElem_cons_zero, List.getElem_cons_succ, Act.put, List.setIfInBounds_toArray, List.set_cons_zero, List.set_cons_succ]
              refine wpAnyH_ready (rs := [27]) (by kernel_rfl) (by simp) ?_
              refine AllReadyH.cons rfl (fun K hK => ?_) AllReadyH.nil
              go_simp
              refine hK.out _ _ HP2.out (fun _ => ?_)
              clear hK K
              try simp only [List.getElem_toArray, List.getElem_cons_zero, List.getElem_cons_succ, Act.put, List.setIfInBounds_toArray, List.set_cons_zero, List.set_cons_succ]
              refine wpAnyH_done (by kernel_rfl) ?_ _
              first | go_meet | (go_wp2_with fail; go_meet)
              exact ⟨rfl, rfl⟩
          case rest =>
            obtain ⟨rfl, rfl⟩ := hcut
            have HCL := Lib.hid (matClean HK2.out r k hrl (by omega) hn hW (by rw [HSB.out]; exact HQ3.out))
            rw [HSB.out] at HCL
            clear cq1 fq1 cqd crd frd HP0 HP1 HP2 HQ3 HSB
            generalize (w2.drew.setCell ⟨gr, r, none⟩ (.slice Aq nq kq)).setCell ⟨gr, q, none⟩ (.slice Ar nr kr) = w4 at *
            go_wp2_with fail
            refine HCL.out.mono ?_
            rintro e w5 ⟨rfl, L5, hK5, hB5, hS5⟩
            have HK5 := Lib.hid hK5
            have HS5 := Lib.hid (HS2.out.trans hS5)
            have HE5 : Hid (Lin.Elm n W T0 (k + 1) (r + 1) (Lin.ent (bsL L5))) := Lib.hid (by rw [hB5]; exact HCE.out)
            clear hK5 hB5 hS5 HS2 HCE HCL HK2
            go_wp2
            exact ⟨⟨k + 1, r + 1, L5, by go_num, by go_num, hlt, hrl, HK5, HE5, HS5⟩, by simp [intOf]; omega⟩
    · obtain rfl : k = cols := by omega
      clear hlt
      go_wp2
      go_ret
      exact ⟨r, Lk, rfl, hI.out, hE.out, hS.out⟩
end Cib

end
/-! Zeros -/
section
set_option linter.unusedVariables false
set_option linter.unusedSimpArgs false
set_option maxRecDepth 20000
namespace Cib
open Go Go.RowKit Go.Proofs
theorem zeroCells_one (z : Value) (k : Nat) : Builtin.zeroCells #[z] k = (List.replicate k z).toArray := by
  apply Array.ext
  · simp [Builtin.zeroCells]
  · intro i h1 h2
    simp [Builtin.zeroCells, Nat.mod_one]
section
variable {P : Program} (w : World)
theorem run_append_room_zeros (t tn ty e : TypeId) (i : TypeInfo) (z : Value) (kq kn : IntKind) (ht : P.underlying t = some (.slice e)) (htn : P.underlying tn = some (.int kn)) (hi : P.info? e = some i) (hz : i.zero = some z)
    (hs1 : i.size = 1) (hzc : z.cells = #[z]) (h1 : z.oneCell' = true) (g sLen sCap : Nat) (cur : Array Value) (hg : w.heap[g]? = some (.cells cur e (0, 0)))
    (m : Nat) (h0 : 0 < m) (h63 : (m : Int) ≤ 9223372036854775807) (h48 : m * i.bytes ≤ 281474976710656) (hroom : sLen + m ≤ sCap) (hfit : sLen + m ≤ cur.size) :
    (Builtin.append_ #[t, tn] ty #[.slice (some ⟨g, 0, none⟩) sLen sCap, .int kq m]).run P w =
      .ok (.slice (some ⟨g, 0, none⟩) (sLen + m) sCap) (w.setRow g (cur.toList.take sLen ++ List.replicate m z ++ cur.toList.drop (sLen + m)).toArray) := by
  have hw : IntKind.i64.wrap (m : Int) = m := by rw [IntKind.wrap_i64]; omega
  have hm : m ≠ 0 := by omega
  have hneg : ¬ ((m : Int) < 0) := by omega
  have h48i : ¬ (281474976710656 < (m : Int) * (i.bytes : Int)) := by
    have : ((m * i.bytes : Nat) : Int) ≤ 281474976710656 := by omega
    rw [Int.natCast_mul] at this
    omega
  have hst := run_storeCells_at P g sLen e (List.replicate m z) 0 cur w hg (by simpa using hfit) (by
    intro u hu
    rw [List.eq_of_mem_replicate hu]
    exact h1)
  simp only [Nat.add_zero] at hst
  simp [Builtin.append_, run_underlying ht, run_underlying htn, Go.sizeOf, typeInfo, zeroValue, hi, hz, hzc, hs1, zeroCells_one, hw, hm, hneg, h48i, hroom, Addr.add_lit, hst, asInt, asIntOf]
theorem run_append_zeros_own (base : Nat) (t tn ty e : TypeId) (i : TypeInfo) (z : Value) (bytes : Nat) (kq kn : IntKind) (ht : P.underlying t = some (.slice e)) (htn : P.underlying tn = some (.int kn)) (hi : P.info? e = some i) (hz : i.zero = some z)
    (hs1 : i.size = 1) (hby : i.bytes = bytes) (hzc : z.cells = #[z]) (h1 : z.oneCell' = true) (A : Option Addr) (n c : Nat) (xs : List Value) (hown : w.ownsRow base e 1 (.slice A n c) n xs)
    (m : Nat) (h0 : 0 < m) (h63 : n + m ≤ maxLen) (hbytes : (n + m) * bytes ≤ 140737488355328) (hbase : base ≤ w.heap.size) :
    ∃ A' c' w', (Builtin.append_ #[t, tn] ty #[.slice A n c, .int kq m]).run P w = .ok (.slice A' (n + m) c') w' ∧ w'.ownsRow base e 1 (.slice A' (n + m) c') (n + m) (xs ++ List.replicate m z) ∧ Below base w w' := by
  subst hby
  have hsmall : n + m ≤ 9223372036854775807 := by simp only [maxLen] at h63; omega
  have hxl : xs.length = n := by simpa using hown.1
  have h48 : m * i.bytes ≤ 281474976710656 := by
    have := Nat.mul_le_mul_right i.bytes (Nat.le_add_left m n)
    omega
  have grown : ∀ (old : Nat), old < n + m →
      (w.drew.alloc (.cells (xs.toArray ++ Builtin.zeroCells z.cells m ++ Builtin.zeroCells z.cells (grownCap w (n + m) old e - (n + m))) e)).ownsRow base e 1
        (.slice (some ⟨w.heap.size, 0, none⟩) (n + m) (grownCap w (n + m) old e)) (n + m) (xs ++ List.replicate m z) := by
    intro old ho
    have hge := grownCap_ge w (n + m) old e
    have hcm : grownCap w (n + m) old e ≤ maxLen := grownCap_le_maxLen w (n + m) old e h63
    refine ⟨by simp [hxl], .inr ⟨w.heap.size, _, _, rfl, hbase, heap_alloc_new w.drew _, hge, hcm, ?_, ?_⟩⟩
    · simp [size_zeroCells, hzc, hxl]
      omega
    · rw [hzc, zeroCells_one, zeroCells_one]
      simp only [Array.toList_append]
      rw [Nat.mul_one, ← hxl]
      conv => lhs; rw [show xs.length + m = (xs.toArray.toList ++ (List.replicate m z).toArray.toList).length by simp]
      rw [List.take_left]
  rcases hown.2 with ⟨hv, hn0⟩ | ⟨g, cap, cur, hv, hbg, hg, hnc, hcm, hcs, htake⟩
  · injection hv with e1 e2 e3
    subst e1 e2 e3
    have hx : xs = [] := List.eq_nil_of_length_eq_zero hxl
    subst hx
    have hr := Lib.run_append_nil_zeros (P := P) w t tn ty e i z kq kn ht htn hi hz m h0 (by omega) (by omega) (by rw [Nat.zero_add] at hbytes; omega)
    have hgr := grown 0 (by omega)
    simp only [Nat.zero_add, List.nil_append, Array.empty_append] at hgr ⊢
    exact ⟨_, _, _, hr, hgr, (Below.refl _ _).drew.alloc hbase _⟩
  · injection hv with e1 e2 e3
    subst e1 e3
    by_cases hroom : n + m ≤ c
    · have hr := run_append_room_zeros (P := P) w t tn ty e i z kq kn ht htn hi hz hs1 hzc h1 g n c cur hg m h0 (by omega) h48 hroom (by rw [hcs]; omega)
      refine ⟨_, _, _, hr, ⟨by simp [hxl], .inr ⟨g, c, _, rfl, hbg, setRow_heap w g cur _ e _ hg, hroom, hcm, ?_, ?_⟩⟩, below_setRow (Below.refl _ _) hbg _⟩
      · simp only [List.size_toArray, List.length_append, List.length_take, List.length_drop, Array.length_toList, List.length_replicate]
        omega
      · rw [Nat.mul_one] at htake
        rw [htake]
        simp only [List.append_assoc, Nat.mul_one]
        rw [← List.append_assoc]
        conv => lhs; rw [show n + m = (xs ++ List.replicate m z).length by simp [hxl]]
        rw [List.take_left]
    · have holds : ∀ j u, xs[j]? = some u → w.drew.cell? ((⟨g, 0, none⟩ : Addr).add j) = some u := hown.cells (g := g) rfl
      have hf := run_firstCells_some (P := P) w.drew i.size n ⟨g, 0, none⟩ n c xs (by rw [hs1, Nat.mul_one, hxl]) holds
      have hr := Lib.run_append_grow_zeros (P := P) w t tn ty e i z kq kn ht htn hi hz (some ⟨g, 0, none⟩) n c xs hf m h0 (by omega) (by omega) (by omega) h48 (growslice_fits (by omega) hbytes)
      exact ⟨_, _, _, hr, grown c (by omega), (Below.refl _ _).drew.alloc hbase _⟩
end
/-- append of so many noughts to a slice of bytes of the call's own. -/
theorem appZ {ops : Array Oper} {rest : List Oper} {o : Oper} {a : Act} {Q : Exit → Act → World → Prop} (w : World) (hgd : o.guard = none) (s x : Operand)
    (ho : o.op = .call { callee := .builtin .append, args := #[s, x], argTypes := #[22, 3] })
    (base : Nat) (A0 : Option Addr) (n0 c0 : Nat) (xs : List Value) (hs : a.eval s = .slice A0 n0 c0) (hown : w.ownsRow base 5 1 (.slice A0 n0 c0) n0 xs)
    (m : Nat) (hx : a.eval x = .int .i64 (m : Int)) (h0 : 0 < m) (hbytes : n0 + m ≤ 140737488355328) (hbase : base ≤ w.heap.size)
    (h : ∀ A' c' w', w'.ownsRow base 5 1 (.slice A' (n0 + m) c') (n0 + m) (xs ++ List.replicate m (.int .u8 0)) → Below base w w' → wpList Try.prog ops Q rest (a.put o.dst (.slice A' (n0 + m) c')) w') :
    wpList Try.prog ops Q (o :: rest) a w := by
  obtain ⟨i0, hi, hz0, hz1, hz2⟩ := info_parts infoByte
  obtain ⟨A', c', w', hr, h2, h3⟩ := run_append_zeros_own (P := Try.prog) w base 22 3 o.type 5 i0 _ 1 .i64 .i64 Try.underlying22 Try.underlying3 hi hz0 hz1 hz2 rfl rfl A0 n0 c0 xs hown m h0 (by unfold maxLen; omega) (by omega) hbase
  exact Lib.wpList_append_run w hgd s x _ _ ho _ _ hs hx _ _ hr (h A' c' w' h2 h3)
end Cib

end
/-! MatB -/
section
set_option linter.unusedVariables false
set_option linter.unusedSimpArgs false
set_option maxRecDepth 40000
namespace Cib
open Go Go.RowKit Go.Proofs
/-- begun under way. -/
structure BgI (w : World) (g W i : Nat) (F : List (List UInt8)) (M : Array Value) (A : Option Addr) (c' : Nat) (L : List RowB) (wr : World) : Prop where
  own : wr.ownsRow w.heap.size 22 1 (.slice A i c') i (L.map RowB.v)
  rows : ∀ r ∈ L, wr.ownsRow w.heap.size 5 1 (.slice r.A r.n r.c) r.n (r.bs.map bv)
  wid : ∀ r ∈ L, r.n = W
  box : Blk wr (w.heap.size + 1) 143 #[.pointer (some ⟨g, 0, none⟩), .slice A i c']
  mat : Blk wr w.heap.size 45 M
  bs : bsL L = F.take i
  below : Below w.heap.size w wr
section
variable {w wr w2 w4 : World} {g W i : Nat} {F : List (List UInt8)} {M : Array Value} {A : Option Addr} {c' : Nat} {L : List RowB}
theorem BgI.push (h : BgI w g W i F M A c' L wr) (hi : i < F.length) {A3 : Option Addr} {n3 c3 : Nat} {row : List UInt8} (hb2 : Below wr.heap.size wr w2) (ho : w2.ownsRow wr.heap.size 5 1 (.slice A3 n3 c3) n3 (row.map bv)) (hn : n3 = W) (hrow : F[i] = row)
    {A4 : Option Addr} {c4 : Nat} (ho4 : w4.ownsRow w.heap.size 22 1 (.slice A4 (i + 1) c4) (i + 1) (L.map RowB.v ++ [.slice A3 n3 c3])) (hg4 : (w2.alloc (.cells #[.slice A3 n3 c3] 22)).grownBy w4 (Value.slice A i c').ownBlock) :
    BgI w g W (i + 1) F M A4 c4 (L ++ [⟨A3, n3, c3, row⟩]) (w4.setCell ⟨w.heap.size + 1, 0 + 1, none⟩ (.slice A4 (i + 1) c4)) := by
  have hal : Below w2.heap.size w2 (w2.alloc (.cells #[.slice A3 n3 c3] 22)) := (Below.refl _ _).alloc (Nat.le_refl _) _
  have hob := own_belowS (own_belowS h.own hb2) hal
  have hs : Same [22] (w2.alloc (.cells #[.slice A3 n3 c3] 22)) w4 := Same.grown hob hg4 (by decide)
  have hbel : Below w.heap.size w w4 := (((h.below.trans (hb2.mono h.below.size)).trans (hal.mono (Nat.le_trans h.below.size hb2.size))).grown hg4 (by have := h.below.size; have := hb2.size; simp; omega) fun k hk => (hob.lt k hk).1)
  have hbox := ((h.box.below hb2 h.box.lt).below hal (Nat.lt_of_lt_of_le h.box.lt hb2.size)).same hs (by decide)
  have hmat := ((h.mat.below hb2 h.mat.lt).below hal (Nat.lt_of_lt_of_le h.mat.lt hb2.size)).same hs (by decide)
  have hne : ∀ {e : TypeId} {b : Nat} {v : Value} {n : Nat} {xs : List Value}, w4.ownsRow b e 1 v n xs → e ≠ 143 → v.ownBlock ≠ some (w.heap.size + 1) := fun h1 h2 he =>
    h2 (Ty.one (own_blockV h1 he).1 hbox.ty)
  refine ⟨?_, fun r hr => ?_, fun r hr => ?_, hbox.set 1 _, hmat.far (p := ⟨w.heap.size + 1, 0 + 1, none⟩) (by show w.heap.size ≠ w.heap.size + 1; omega) _, ?_, hbel.setCell (p := ⟨w.heap.size + 1, 0 + 1, none⟩) (by show _ ≤ w.heap.size + 1; omega) _⟩
  · rw [List.map_append]
    exact ownsRow_setCell_other ho4 (hne ho4 (by decide)) _
  · rcases List.mem_append.1 hr with hr | hr
    · have h1 := own_same (own_belowS (own_belowS (h.rows r hr) hb2) hal) hs (by decide)
      exact ownsRow_setCell_other h1 (hne h1 (by decide)) _
    · rw [List.mem_singleton] at hr
      subst hr
      have h1 := own_lowerS (own_same (own_belowS ho hal) hs (by decide)) h.below.size
      exact ownsRow_setCell_other h1 (hne h1 (by decide)) _
  · rcases List.mem_append.1 hr with hr | hr
    · exact h.wid r hr
    · rw [List.mem_singleton] at hr
      subst hr
      exact hn
  · rw [List.take_succ_eq_append_getElem hi, hrow, ← h.bs]
    simp [bsL]
theorem BgI.kept (h : BgI w g W i F M A c' L wr) {A3 : Option Addr} {n3 c3 : Nat} (hb2 : Below wr.heap.size wr w2) (hg4 : (w2.alloc (.cells #[.slice A3 n3 c3] 22)).grownBy w4 (Value.slice A i c').ownBlock) :
    Blk w4 (w.heap.size + 1) 143 #[.pointer (some ⟨g, 0, none⟩), .slice A i c'] := by
  have hal : Below w2.heap.size w2 (w2.alloc (.cells #[.slice A3 n3 c3] 22)) := (Below.refl _ _).alloc (Nat.le_refl _) _
  have hs : Same [22] (w2.alloc (.cells #[.slice A3 n3 c3] 22)) w4 := Same.grown (own_belowS (own_belowS h.own hb2) hal) hg4 (by decide)
  exact ((h.box.below hb2 h.box.lt).below hal (Nat.lt_of_lt_of_le h.box.lt hb2.size)).same hs (by decide)
end
theorem cut_row {w : World} {B : Nat} {A : Option Addr} {bs : List UInt8} (hr : Rd w B A (bs.map bv)) {r c i : Nat} (hl : bs.length = r * c) (hi : i < r) : Rd w B (cut A ((i + 1) * c) (i * c)) ((Lin.rowOf c bs i).map bv) := by
  have hle : (i + 1) * c ≤ r * c := Nat.mul_le_mul_right c hi
  have h0 : i * c ≤ (i + 1) * c := Nat.mul_le_mul_right c (Nat.le_succ i)
  have h1 : Rd w B A ((bs.take ((i + 1) * c)).map bv) := by
    rw [List.map_take]
    exact hr.take _
  have h2 := h1.cut (c := (i + 1) * c) (k := i * c) (by simp; omega) (by simp; omega)
  have e : (Lin.rowOf c bs i).map bv = ((bs.take ((i + 1) * c)).map bv).drop (i * c) := by
    rw [← List.map_drop, List.drop_take]
    unfold Lin.rowOf
    rw [Nat.succ_mul, Nat.add_sub_cancel_left]
  rw [e]
  exact h2
/-- A row with noughts put behind it, one of them made 1. -/
theorem zeros_set {w1 w2 w5 : World} {A5 : Option Addr} {c r c5 p : Nat} {row : List UInt8} (ho : w5.ownsRow w1.heap.size 5 1 (.slice A5 (c + r) c5) (c + r) (row.map bv ++ List.replicate r (.int .u8 0))) (hb : Below w1.heap.size w2 w5) (hb2 : Below w1.heap.size w1 w2) (hl : row.length = c) (hp : p < r) :
    ∃ g5, A5 = some ⟨g5, 0, none⟩ ∧ w1.heap.size ≤ g5 ∧ w5.cell? ⟨g5, c + p, none⟩ = some (.int .u8 0) ∧ w5.frozen? ⟨g5, c + p, none⟩ = false ∧ Hid (Below w1.heap.size w1 (w5.setCell ⟨g5, c + p, none⟩ (.int .u8 1))) ∧ Hid ((w5.setCell ⟨g5, c + p, none⟩ (.int .u8 1)).ownsRow w1.heap.size 5 1 (.slice (some ⟨g5, 0, none⟩) (c + r) c5) (c + r) ((row ++ Lin.unitRow p r).map bv)) := by
  have ho5 : w5.ownsRow w1.heap.size 5 1 (.slice A5 (c + r) c5) (c + r) ((row ++ List.replicate r 0).map bv) := by
    rw [List.map_append, List.map_replicate]
    exact ho
  obtain ⟨g5, rfl, hg5⟩ := own_at ho5 (by omega)
  obtain ⟨hc5, hf5, hs5⟩ := own_byte ho5 (j := c + p) (by rw [List.length_append, hl, List.length_replicate]; omega)
  have hs5' := hs5 1 0
  have hset : (row ++ List.replicate r 0).set (c + p) 1 = row ++ Lin.unitRow p r := by
    rw [List.set_append_right _ _ (by omega), hl, Nat.add_sub_cancel_left]
    rfl
  rw [hset] at hs5'
  refine ⟨g5, rfl, hg5, ?_, hf5, Lib.hid ((hb2.trans hb).setCell (p := ⟨g5, c + p, none⟩) hg5 _), Lib.hid hs5'⟩
  rw [hc5, List.getElem_append_right (by omega)]
  simp
/-- What begun answers. -/
def BegR (w : World) (g r c : Nat) (bs : List UInt8) (both : Bool) (e : Ending) (w' : World) : Prop :=
  ∃ gw gr cc L, e = .returned (.pointer (some ⟨gw, 0, none⟩)) ∧ WkI w g gw gr r (c + if both then r else 0) cc L w' ∧ bsL L = Lin.begunL r c bs both ∧ Below w.heap.size w w'
set_option maxHeartbeats 4000000 in
theorem matBegunF (g r c : Nat) (A : Option Addr) (n k : Nat) (bs : List UInt8) (w : World) (hf : Full w g) (hr : Rd w w.heap.size A (bs.map bv)) (hbs : bs.length = r * c) (hn : n = r * c) (hnk : n ≤ k) (hr1 : 1 ≤ r) (hr2 : r ≤ 255) (hc2 : c ≤ 255) :
    Calls Try.prog 92 #[.pointer (some ⟨g, 0, none⟩), .agg (mv r c A n k), .bool false] w (BegR w g r c bs false) := by
  have HF := Lib.hid hf
  have HRD := Lib.hid hr
  have HBS := Lib.hid hbs
  have HGL := Lib.hid hf.lt
  have hnk2 : r * c ≤ k := by omega
  have HROW := Lib.hid fun i (hi : i < r) W => matRow A n k c i hc2 (by rw [hn]; exact Nat.mul_le_mul_right c hi) (by omega) hnk W
  have H0 : Hid (BgI w g c 0 (Lin.begunL r c bs false) (mv r c A n k) none 0 [] (((w.alloc (.cells (mv r c A n k) 45)).alloc (.cells #[.pointer (some ⟨g, 0, none⟩), .slice none 0 0] 143)))) := by
    refine Lib.hid ⟨World.ownsRow_nil _ _ _ _, fun x hx => (by cases hx), fun x hx => (by cases hx), ?_, (Blk.new w _ _).alloc _, rfl, ((Below.refl _ _).alloc (Nat.le_refl _) _).alloc (by simp) _⟩
    have := Blk.new (w.alloc (.cells (mv r c A n k) 45)) 143 #[.pointer (some ⟨g, 0, none⟩), .slice none 0 0]
    simpa using this
  have HFL := Lib.hid (Lin.begunL_length r c bs false)
  have HFG := Lib.hid fun i (hi : i < (Lin.begunL r c bs false).length) => Lin.begunL_get (r := r) (c := c) (A := bs) (both := false) hi
  clear hf hr hbs hnk hn
  unfold mv at H0 ⊢
  go_enter Try.func92, Try.ntmps92
  go_wp2
  go_loopw [15] (fun i wr => ∃ (p : Nat) (A' : Option Addr) (c' : Nat) (L : List RowB), i = .int .i64 p ∧ p ≤ r ∧ Hid (BgI w g c p (Lin.begunL r c bs false) #[.int .i64 r, .int .i64 c, .slice A n k] A' c' L wr)) (fun i _ => r - (intOf i).toNat)
  case atStart => exact ⟨0, none, 0, [], rfl, Nat.zero_le _, H0⟩
  case round =>
    clear H0
    obtain ⟨p, A', c', L, rfl, hp, hI⟩ := hrel
    by_cases hlt : p < r
    · have m0 := hI.out.mat.cell 0
      have m1 := hI.out.mat.cell 1
      have m2 := hI.out.mat.cell 2
      have b1 := hI.out.box.cell 1
      simp only [List.getElem?_toArray, List.getElem?_cons_zero, List.getElem?_cons_succ] at m0 m1 m2 b1
      have HRW := Lib.hid (HROW.out p hlt wr)
      have HRR := Lib.hid (cut_row (HRD.out.below hI.out.below) HBS.out hlt)
      have hrl := Lin.rowOf_length HBS.out hlt
      have hFp : p < (Lin.begunL r c bs false).length := by rw [HFL.out]; exact hlt
      have hFP := HFG.out p hFp
      simp only [Bool.false_eq_true, if_false, if_true, List.append_nil] at hFP
      have HPU := Lib.hid fun A3 c3 w2 w4 A4 c4 hb2 ho ho4 hg4 => hI.out.push (w2 := w2) (w4 := w4) hFp (A3 := A3) (n3 := c) (c3 := c3) hb2 ho rfl hFP (A4 := A4) (c4 := c4) ho4 hg4
      have HKP := Lib.hid fun A3 c3 w2 w4 hb2 hg4 => hI.out.kept (w2 := w2) (w4 := w4) (A3 := A3) (n3 := c) (c3 := c3) hb2 hg4
      have hsz := hI.out.below.size
      have HOW := Lib.hid hI.out.own
      have hlm := hI.out.mat.lt
      have hlb := hI.out.box.lt
      have HRL := Lib.hid hrl
      clear hI hFP hFp hrl
      generalize Lin.rowOf c bs p = row at *
      generalize cut A ((p + 1) * c) (p * c) = Ar at *
      go_wp2_with fail
      refine HRW.out.mono ?_
      rintro e w1 ⟨rfl, rfl⟩
      go_wp2_with (first | (at_builtin; refine appB _ rfl (.const (.slice none 0 0)) (.tmp 23) rfl w1.heap.size none 0 0 [] rfl (World.ownsRow_nil _ _ _ _) _ Ar c c (row.map bv) rfl (by rw [List.length_map]; exact HRL.out) HRR.out one_bytes (by omega) (Nat.le_refl _) ?_; intro A3 c3 w2 ho2 hg2 hb2; rw [Nat.zero_add, List.nil_append] at ho2; rw [Nat.zero_add]; have HO2 := Lib.hid ho2; have HB2 := Lib.hid hb2; have hz2 := hb2.size; have m0 := (hb2.cell (p := ⟨w.heap.size, 0, none⟩) (by exact hlm)).trans m0; have m1 := (hb2.cell (p := ⟨w.heap.size, 1, none⟩) (by exact hlm)).trans m1; have b1 := (hb2.cell (p := ⟨w.heap.size + 1, 1, none⟩) (by exact hlb)).trans b1; clear ho2 hg2 hb2) | (at_builtin; go_loud (refine appR _ rfl (.tmp 40) (.tmp 42) rfl w.heap.size A' p c' (L.map RowB.v) rfl ((own_belowS HOW.out HB2.out).alloc _) _ (some ⟨w2.heap.size, 0, none⟩) 1 1 [.slice A3 c c3] rfl rfl (Rd.new w2 _ _ _ rfl) (one_rows (L := [⟨A3, c, c3, []⟩])) (by omega) (by have := HB2.out.size; simp at this ⊢; omega) ?_; intro A4 c4 w4 ho4 hg4 hb4; have hk4 := HKP.out _ _ _ _ HB2.out hg4; have b4 := hk4.cell 1; have f4 := hk4.frozen 1; simp only [List.getElem?_toArray, List.getElem?_cons_zero, List.getElem?_cons_succ] at b4; have HPP := Lib.hid (HPU.out _ _ _ w4 A4 c4 HB2.out HO2.out ho4 hg4); clear ho4 hg4 hb4 hk4)))
      go_roundw
      case rel => exact ⟨p + 1, A4, c4, _, by go_num, hlt, HPP⟩
      case measure => simp [intOf]; omega
    · obtain rfl : p = r := by omega
      clear hlt
      obtain ⟨gr, rfl, hge⟩ := own_at hI.out.own hr1
      go_wp2
      go_ret
      have hb := hI.out.below
      refine ⟨w.heap.size + 1, gr, c', L, rfl, ⟨HF.out.below hb HGL.out, hI.out.box, ⟨hI.out.own, hI.out.rows, hb⟩, hI.out.wid, HGL.out, by omega⟩, ?_, hb⟩
      rw [hI.out.bs, List.take_of_length_le (by rw [HFL.out]; exact Nat.le_refl _)]
set_option maxHeartbeats 4000000 in
theorem matBegunT (g r c : Nat) (A : Option Addr) (n k : Nat) (bs : List UInt8) (w : World) (hf : Full w g) (hr : Rd w w.heap.size A (bs.map bv)) (hbs : bs.length = r * c) (hn : n = r * c) (hnk : n ≤ k) (hr1 : 1 ≤ r) (hr2 : r ≤ 255) (hc2 : c ≤ 255) :
    Calls Try.prog 92 #[.pointer (some ⟨g, 0, none⟩), .agg (mv r c A n k), .bool true] w (BegR w g r c bs true) := by
  have HF := Lib.hid hf
  have HRD := Lib.hid hr
  have HBS := Lib.hid hbs
  have HGL := Lib.hid hf.lt
  have hnk2 : r * c ≤ k := by omega
  have HROW := Lib.hid fun i (hi : i < r) W => matRow A n k c i hc2 (by rw [hn]; exact Nat.mul_le_mul_right c hi) (by omega) hnk W
  have H0 : Hid (BgI w g (c + r) 0 (Lin.begunL r c bs true) (mv r c A n k) none 0 [] (((w.alloc (.cells (mv r c A n k) 45)).alloc (.cells #[.pointer (some ⟨g, 0, none⟩), .slice none 0 0] 143)))) := by
    refine Lib.hid ⟨World.ownsRow_nil _ _ _ _, fun x hx => (by cases hx), fun x hx => (by cases hx), ?_, (Blk.new w _ _).alloc _, rfl, ((Below.refl _ _).alloc (Nat.le_refl _) _).alloc (by simp) _⟩
    have := Blk.new (w.alloc (.cells (mv r c A n k) 45)) 143 #[.pointer (some ⟨g, 0, none⟩), .slice none 0 0]
    simpa using this
  have HFL := Lib.hid (Lin.begunL_length r c bs true)
  have HFG := Lib.hid fun i (hi : i < (Lin.begunL r c bs true).length) => Lin.begunL_get (r := r) (c := c) (A := bs) (both := true) hi
  clear hf hr hbs hnk hn
  unfold mv at H0 ⊢
  go_enter Try.func92, Try.ntmps92
  go_wp2
  go_loopw [15] (fun i wr => ∃ (p : Nat) (A' : Option Addr) (c' : Nat) (L : List RowB), i = .int .i64 p ∧ p ≤ r ∧ Hid (BgI w g (c + r) p (Lin.begunL r c bs true) #[.int .i64 r, .int .i64 c, .slice A n k] A' c' L wr)) (fun i _ => r - (intOf i).toNat)
  case atStart => exact ⟨0, none, 0, [], rfl, Nat.zero_le _, H0⟩
  case round =>
    clear H0
    obtain ⟨p, A', c', L, rfl, hp, hI⟩ := hrel
    by_cases hlt : p < r
    · have m0 := hI.out.mat.cell 0
      have m1 := hI.out.mat.cell 1
      have m2 := hI.out.mat.cell 2
      have b1 := hI.out.box.cell 1
      simp only [List.getElem?_toArray, List.getElem?_cons_zero, List.getElem?_cons_succ] at m0 m1 m2 b1
      have HRW := Lib.hid (HROW.out p hlt wr)
      have HRR := Lib.hid (cut_row (HRD.out.below hI.out.below) HBS.out hlt)
      have hrl := Lin.rowOf_length HBS.out hlt
      have hFp : p < (Lin.begunL r c bs true).length := by rw [HFL.out]; exact hlt
      have hFP := HFG.out p hFp
      simp only [Bool.false_eq_true, if_false, if_true, List.append_nil] at hFP
      have HPU := Lib.hid fun A3 c3 w2 w4 A4 c4 hb2 ho ho4 hg4 => hI.out.push (w2 := w2) (w4 := w4) hFp (A3 := A3) (n3 := (c + r)) (c3 := c3) hb2 ho rfl hFP (A4 := A4) (c4 := c4) ho4 hg4
      have HKP := Lib.hid fun A3 c3 w2 w4 hb2 hg4 => hI.out.kept (w2 := w2) (w4 := w4) (A3 := A3) (n3 := (c + r)) (c3 := c3) hb2 hg4
      have hsz := hI.out.below.size
      have HOW := Lib.hid hI.out.own
      have hlm := hI.out.mat.lt
      have hlb := hI.out.box.lt
      have HRL := Lib.hid hrl
      clear hI hFP hFp hrl
      generalize Lin.rowOf c bs p = row at *
      generalize cut A ((p + 1) * c) (p * c) = Ar at *
      go_wp2_with fail
      refine HRW.out.mono ?_
      rintro e w1 ⟨rfl, rfl⟩
      have hx1 : (0 : Int) ≤ (c : Int) + (p : Int) := by omega
      have hx2 : ((c : Int) + (p : Int)).toNat = c + p := by omega
      have hx3 : (c : Int) + (p : Int) < (c : Int) + (r : Int) := by omega
      have hx4 : IntKind.i64.wrap ((c : Int) + (p : Int)) = (c : Int) + (p : Int) := by rw [IntKind.wrap_i64]; omega
      go_wp2_with (first | (at_builtin; refine appB _ rfl (.const (.slice none 0 0)) (.tmp 23) rfl w1.heap.size none 0 0 [] rfl (World.ownsRow_nil _ _ _ _) _ Ar c c (row.map bv) rfl (by rw [List.length_map]; exact HRL.out) HRR.out one_bytes (by omega) (Nat.le_refl _) ?_; intro A3 c3 w2 ho2 hg2 hb2; rw [Nat.zero_add, List.nil_append] at ho2; rw [Nat.zero_add]; have HO2 := Lib.hid ho2; have HB2 := Lib.hid hb2; have hz2 := hb2.size; have m0 := (hb2.cell (p := ⟨w.heap.size, 0, none⟩) (by exact hlm)).trans m0; have m1 := (hb2.cell (p := ⟨w.heap.size, 1, none⟩) (by exact hlm)).trans m1; have b1 := (hb2.cell (p := ⟨w.heap.size + 1, 1, none⟩) (by exact hlb)).trans b1; clear ho2 hg2 hb2) | (at_builtin; go_loud (refine appZ _ rfl (.tmp 26) (.tmp 28) rfl w1.heap.size A3 c c3 (row.map bv) rfl HO2.out r rfl (by omega) (by omega) hz2 ?_; intro A5 c5 w5 ho5 hb5; obtain ⟨g5, hA5, hg5, hc5, hf5, HB5, HO5⟩ := zeros_set ho5 hb5 HB2.out HRL.out hlt; subst hA5; have m1 := (hb5.cell (p := ⟨w.heap.size, 1, none⟩) (by exact hlm)).trans m1; have b1 := (hb5.cell (p := ⟨w.heap.size + 1, 1, none⟩) (by exact hlb)).trans b1; have b2 := (World.cell?_setCell_other w5 ⟨g5, c + p, none⟩ ⟨w.heap.size + 1, 1, none⟩ (.int .u8 1) (fun e => by injection e with e1; omega)).trans b1; have hz5 := HB5.out.size; have HRN : Hid (Rd ((w5.setCell ⟨g5, c + p, none⟩ (.int .u8 1)).alloc (.cells #[.slice (some ⟨g5, 0, none⟩) (c + r) c5] 22)) (w5.heap.size + 1) (some ⟨w5.heap.size, 0, none⟩) [.slice (some ⟨g5, 0, none⟩) (c + r) c5]) := Lib.hid (by have := Rd.new (w5.setCell ⟨g5, c + p, none⟩ (.int .u8 1)) #[.slice (some ⟨g5, 0, none⟩) (c + r) c5] 22 (0, 0) (vs := [.slice (some ⟨g5, 0, none⟩) (c + r) c5]) rfl; simpa using this); clear ho5 hb5 HO2 HB2 m0 hz2)) | (at_builtin; go_loud (refine appR _ rfl (.tmp 40) (.tmp 42) rfl w.heap.size A' p c' (L.map RowB.v) rfl ((own_belowS HOW.out HB5.out).alloc _) _ (some ⟨w5.heap.size, 0, none⟩) 1 1 [.slice (some ⟨g5, 0, none⟩) (c + r) c5] rfl rfl HRN.out (one_rows (L := [⟨(some ⟨g5, 0, none⟩), (c + r), c5, []⟩])) (by omega) (by have := HB5.out.size; simp at this ⊢; omega) ?_; intro A4 c4 w4 ho4 hg4 hb4; have hk4 := HKP.out _ _ _ _ HB5.out hg4; have b4 := hk4.cell 1; have f4 := hk4.frozen 1; simp only [List.getElem?_toArray, List.getElem?_cons_zero, List.getElem?_cons_succ] at b4; have HPP := Lib.hid (HPU.out _ _ _ w4 A4 c4 HB5.out HO5.out ho4 hg4); clear ho4 hg4 hb4 hk4)))
      go_roundw
      case rel => exact ⟨p + 1, A4, c4, _, by go_num, hlt, HPP⟩
      case measure => simp [intOf]; omega
    · obtain rfl : p = r := by omega
      clear hlt
      obtain ⟨gr, rfl, hge⟩ := own_at hI.out.own hr1
      go_wp2
      go_ret
      have hb := hI.out.below
      refine ⟨w.heap.size + 1, gr, c', L, rfl, ⟨HF.out.below hb HGL.out, hI.out.box, ⟨hI.out.own, hI.out.rows, hb⟩, hI.out.wid, HGL.out, by omega⟩, ?_, hb⟩
      rw [hI.out.bs, List.take_of_length_le (by rw [HFL.out]; exact Nat.le_refl _)]
end Cib

end
/-! MatN -/
section
set_option linter.unusedVariables false
set_option linter.unusedSimpArgs false
set_option maxRecDepth 40000
namespace Cib
open Go Go.RowKit Go.Proofs
theorem nilReady (w : World) : Calls Try.prog 48 #[.pointer none] w fun e w' => e = .returned (.bool false) ∧ w' = w := by
  go_enter Try.func48, Try.ntmps48
  go_wp2
  go_ret
  exact ⟨rfl, rfl⟩
theorem nilDiv (a b : Nat) (ha : a < 256) (hb : b < 256) (w : World) : Calls Try.prog 31 #[.pointer none, .int .u8 (a : Int), .int .u8 (b : Int)] w fun e w' => e = .returned (.tuple #[.int .u8 0, .int .i64 1]) ∧ w' = w := by
  go_enter Try.func31, Try.ntmps31
  go_wp2_with (go_at_call 48; refine (nilReady w).mono ?_; rintro e w' ⟨rfl, rfl⟩)
  first | go_ret2 | go_ret
  exact ⟨rfl, rfl⟩
theorem nilNobody (w : World) : Calls Try.prog 26 #[.pointer none] w fun e w' => e = .returned (.bool true) ∧ w' = w := by
  go_enter Try.func26, Try.ntmps26
  go_wp2_with (go_at_call 31; refine (nilDiv 1 1 (by decide) (by decide) w).mono ?_; rintro e w' ⟨rfl, rfl⟩)
  go_ret
  exact ⟨rfl, rfl⟩
theorem nilCauchy (A1 A2 : Option Addr) (n1 c1 n2 c2 : Nat) (w : World) : Calls Try.prog 16 #[.pointer none, .slice A1 n1 c1, .slice A2 n2 c2] w fun e w' => e = .returned (.tuple #[.agg (mv 0 0 none 0 0), .int .i64 1]) ∧ Below w.heap.size w w' := by
  go_enter Try.func16, Try.ntmps16
  go_wp2_with fail
  refine (nilNobody _).mono ?_
  rintro e w1 ⟨rfl, rfl⟩
  go_wp2
  refine bodyPost_ret (results_mat2 (g := w.heap.size + 1 + 1 + 1) (te := 45) (cs := mv 0 0 none 0 0) (fr := (0, 0)) rfl _ _ _ rfl ?_ Try.underlying45 rfl matInfo3) rfl ⟨rfl, ?_⟩
  · have := Blk.new (((w.alloc (.cells #[.pointer none] 25)).alloc (.cells #[.slice A1 n1 c1] 22)).alloc (.cells #[.slice A2 n2 c2] 22)) 45 (mv 0 0 none 0 0)
    simpa [mv, Blk] using this
  · exact ((((Below.refl _ _).alloc (Nat.le_refl _) _).alloc (by simp) _).alloc (by simp; omega) _).alloc (by simp; omega) _
end Cib

end
/-! MatI -/
section
set_option linter.unusedVariables false
set_option linter.unusedSimpArgs false
set_option maxRecDepth 40000
namespace Cib
open Go Go.RowKit Go.Proofs
theorem nilInvert (r c : Int) (A : Option Addr) (n k : Nat) (w : World) : Calls Try.prog 83 #[.pointer none, .agg (mv r c A n k)] w fun e w' => e = .returned (.tuple #[.agg (mv 0 0 none 0 0), .int .i64 1]) ∧ Below w.heap.size w w' := by
  unfold mv
  go_enter Try.func83, Try.ntmps83
  go_wp2_with fail
  refine (nilNobody _).mono ?_
  rintro e w1 ⟨rfl, rfl⟩
  go_wp2
  refine bodyPost_ret (results_mat2 (g := w.heap.size + 1) (te := 45) (cs := mv 0 0 none 0 0) (fr := (0, 0)) rfl _ _ _ rfl ?_ Try.underlying45 rfl matInfo3) rfl ⟨rfl, ?_⟩
  · have := Blk.new (w.alloc (.cells (mv r c A n k) 45)) 45 (mv 0 0 none 0 0)
    simpa [mv, Blk] using this
  · exact ((Below.refl _ _).alloc (Nat.le_refl _) _).alloc (by simp) _
/-- Invert's boxes: the matrix, and the result. -/
structure InvW (w : World) (r c : Int) (A : Option Addr) (n k : Nat) (wa : World) : Prop where
  m : Blk wa w.heap.size 45 (mv r c A n k)
  z : Blk wa (w.heap.size + 1) 45 (mv 0 0 none 0 0)
theorem InvW.new (w : World) (r c : Int) (A : Option Addr) (n k : Nat) : InvW w r c A n k ((w.alloc (.cells (mv r c A n k) 45)).alloc (.cells (mv 0 0 none 0 0) 45)) :=
  ⟨(Blk.new w _ _).alloc _, by have := Blk.new (w.alloc (.cells (mv r c A n k) 45)) 45 (mv 0 0 none 0 0); simpa using this⟩
theorem InvW.below {w wa wb : World} {r c : Int} {A : Option Addr} {n k : Nat} (h : InvW w r c A n k wa) (hb : Below wa.heap.size wa wb) : InvW w r c A n k wb := ⟨h.m.below hb h.m.lt, h.z.below hb h.z.lt⟩
theorem InvW.aft {w wa wb : World} {g : Nat} {r c : Int} {A : Option Addr} {n k : Nat} (h : InvW w r c A n k wa) (ha : Aft g wa wb) (hg : g < w.heap.size) : InvW w r c A n k wb := ⟨ha.blk (by omega) h.m, ha.blk (by omega) h.z⟩
theorem Fld.on {w w' : World} {g : Nat} (h : Fld w g) (hb : Below w.heap.size w w') : Fld w' g := by
  rcases h with h | h
  · exact .inl (h.below hb (Blk.lt h))
  · exact .inr (h.below hb (Blk.lt h))
set_option maxHeartbeats 2000000 in
theorem matInvertNo (g : Nat) (r c : Int) (A : Option Addr) (n k : Nat) (w : World) (h : Fld w g) (hn : n ≤ 140737488355328) (hno : mr r c n = false ∨ r ≠ c) :
    Calls Try.prog 83 #[.pointer (some ⟨g, 0, none⟩), .agg (mv r c A n k)] w (NoM g 2 w) := by
  have hz : Below w.heap.size w ((w.alloc (.cells (mv r c A n k) 45)).alloc (.cells (mv 0 0 none 0 0) 45)) := ((Below.refl _ _).alloc (Nat.le_refl _) _).alloc (by simp) _
  have HIW := Lib.hid (InvW.new w r c A n k)
  have HFA := Lib.hid (h.on hz)
  have HGL := Lib.hid h.lt
  have HZ := Lib.hid hz
  have HRI := Lib.hid fun W => matRight r c A n k hn W
  obtain ⟨b, hb⟩ : ∃ b, mr r c n = b := ⟨_, rfl⟩
  rw [hb] at HRI hno
  clear h hz hb
  unfold mv at HRI HFA HZ ⊢
  go_enter Try.func83, Try.ntmps83
  go_wp2_with fail
  refine (matNobody g _ HFA.out).mono ?_
  rintro e w1 ⟨rfl, ha⟩
  have HS1 := Lib.hid (ha.stp2 HZ.out)
  have HI1 := Lib.hid (HIW.out.aft ha HGL.out)
  have m0 := HI1.out.m.cell 0
  have m1 := HI1.out.m.cell 1
  have m2 := HI1.out.m.cell 2
  unfold mv at m0 m1 m2
  simp only [List.getElem?_toArray, List.getElem?_cons_zero, List.getElem?_cons_succ] at m0 m1 m2
  clear ha HFA HIW HZ
  go_wp2_with fail
  refine (HRI.out _).mono ?_
  rintro e w2 ⟨rfl, hb2⟩
  have HI2 := Lib.hid (HI1.out.below hb2)
  have HS2 := Lib.hid (HS1.out.via hb2)
  have n0 := HI2.out.m.cell 0
  have n1 := HI2.out.m.cell 1
  unfold mv at n0 n1
  simp only [List.getElem?_toArray, List.getElem?_cons_zero, List.getElem?_cons_succ] at n0 n1
  have hz2 := HI2.out.z
  clear hb2 m0 m1 m2 HI1 HS1
  have hfin : ∀ W : World, W = w2.setRow (w.heap.size + 1) (mv 0 0 none 0 0) → Blk W (w.heap.size + 1) 45 (mv 0 0 none 0 0) ∧ Stp g w W := fun W e => by
    subst e
    exact ⟨hz2.row _, HS2.out.setRow (by omega) (by have := HGL.out; omega) _⟩
  have HFIN := Lib.hid hfin
  clear hfin
  cases b
  · go_wp2_with (refine wpList_store_row rfl 45 (.tmp 4) (.tmp 22) rfl (w.heap.size + 1) (mv 0 0 none 0 0) rfl rfl 45 (mv 0 0 none 0 0) hz2 matInfo3 rfl (mv_one _ _ _ _ _) ?_)
    refine bodyPost_ret (results_mat2 (g := w.heap.size + 1) (te := 45) (cs := mv 0 0 none 0 0) (fr := (0, 0)) rfl _ _ _ rfl (HFIN.out _ rfl).1 Try.underlying45 rfl matInfo3) rfl ⟨rfl, (HFIN.out _ rfl).2⟩
  · have hrc : r ≠ c := hno.resolve_left (by decide)
    have hd1 : (r != c) = true := by simpa using hrc
    have hd2 : (r == c) = false := by simpa using hrc
    clear hno hrc
    go_wp2_with (refine wpList_store_row rfl 45 (.tmp 4) (.tmp 22) rfl (w.heap.size + 1) (mv 0 0 none 0 0) rfl rfl 45 (mv 0 0 none 0 0) hz2 matInfo3 rfl (mv_one _ _ _ _ _) ?_)
    refine bodyPost_ret (results_mat2 (g := w.heap.size + 1) (te := 45) (cs := mv 0 0 none 0 0) (fr := (0, 0)) rfl _ _ _ rfl (HFIN.out _ rfl).1 Try.underlying45 rfl matInfo3) rfl ⟨rfl, (HFIN.out _ rfl).2⟩
/-- A number of the inverse. -/
theorem matInvCell {w0 W : World} {g gw gr n Wd c : Nat} {L : List RowB} (h : WkI w0 g gw gr n Wd c L W) (g6 g3 : Nat) (cols i j : Nat) (r' : Int) (A : Option Addr) (na ka : Nat)
    (h6 : W.cell? ⟨g6, 0, none⟩ = some (.pointer (some ⟨gw, 0, none⟩))) (h3 : Blk W g3 45 (mv r' cols A na ka)) (hi : i < n) (hj : cols + j < Wd) (hW : Wd ≤ 65536) (hn : n ≤ 65536) :
    Calls Try.prog 94 #[.int .i64 (i : Int), .int .i64 (j : Int), .pointer (some ⟨g6, 0, none⟩), .pointer (some ⟨g3, 0, none⟩)] W fun e W' => e = .returned (.int .u8 ((Lin.ent (bsL L) i (cols + j)).toNat : Int)) ∧ Below W.heap.size W W' := by
  have hiL : i < L.length := by rw [h.dat.len]; exact hi
  have hcell := (h.dat.cell hiL).1
  have b1 := h.b1
  have m1 := h3.cell 1
  unfold mv at m1
  simp only [List.getElem?_toArray, List.getElem?_cons_zero, List.getElem?_cons_succ] at m1
  have hrow := h.at hiL
  have hwd := h.wid _ (List.getElem_mem hiL)
  rw [bsL_ent hiL]
  generalize L[i] = r at *
  obtain ⟨RA, rn, rc, rb⟩ := r
  simp only [RowB.v] at hcell
  simp only at hwd
  obtain rfl : Wd = rn := hwd.symm
  have hrl : rb.length = Wd := hrow.len
  obtain ⟨rad, hra, _, hbyte⟩ := hrow.rd.byte (k := cols + j) (by rw [hrl]; exact hj)
  simp only at hra
  subst hra
  rw [getD_0 (by rw [hrl]; exact hj)]
  generalize rb[cols + j]'(by rw [hrl]; exact hj) = x at *
  have l1 := block_lt_of_cell h6
  have l2 := block_lt_of_cell b1
  have l3 := block_lt_of_cell hcell
  have l4 := block_lt_of_cell m1
  have l5 := block_lt_of_cell hbyte
  have hx1 : (0 : Int) ≤ (cols : Int) + (j : Int) := by omega
  have hx2 : ((cols : Int) + (j : Int)).toNat = cols + j := by omega
  have hx3 : (cols : Int) + (j : Int) < (Wd : Int) := by omega
  have hx4 : IntKind.i64.wrap ((cols : Int) + (j : Int)) = (cols : Int) + (j : Int) := by rw [IntKind.wrap_i64]; omega
  clear h h3 hrow hrl hiL
  go_enter Try.func94, Try.ntmps94
  go_wp2
  refine wp_region_held_drew (S := (fun wQq => Below (World.heap (W.drew)).size (W.drew) wQq)) (by kernel_rfl) (by exact Below.refl _ _) (fun _ => ?_)
  refine wpAnyH_take (i := 4) (v := ?_) rfl (by kernel_rfl) (by kernel_rfl) (by kernel_rfl) (fun _ _ _ h => h) (Or.inl ⟨by rfl, ?_⟩) (Below.refl _ _) ?_
  rotate_left
  · intro wS hSw
    go_simp
    try with_reducible rfl
  try simp only [List.getElem_toArray, List.getElem_cons_zero, List.getElem_cons_succ, Act.put, List.setIfInBounds_toArray, List.set_cons_zero, List.set_cons_succ]
  refine wpAnyH_take (i := 7) (v := ?_) rfl (by kernel_rfl) (by kernel_rfl) (by kernel_rfl) (fun _ _ _ h => h) (Or.inl ⟨by rfl, ?_⟩) (Below.refl _ _) ?_
  rotate_left
  · intro wS hSw
    go_simp
    try with_reducible rfl
  try simp only [List.getElem_toArray, List.getElem_cons_zero, List.getElem_cons_succ, Act.put, List.setIfInBounds_toArray, List.set_cons_zero, List.set_cons_succ]
  refine wpAnyH_take (i := 9) (v := ?_) rfl (by kernel_rfl) (by kernel_rfl) (by kernel_rfl) (fun _ _ _ h => h) (Or.inl ⟨by rfl, ?_⟩) (Below.refl _ _) ?_
  rotate_left
  · intro wS hSw
    go_simp
    try with_reducible rfl
  try simp only [List.getElem_toArray, List.getElem_cons_zero, List.getElem_cons_succ, Act.put, List.setIfInBounds_toArray, List.set_cons_zero, List.set_cons_succ]
  refine wpAnyH_take (i := 0) (v := ?_) rfl (by kernel_rfl) (by kernel_rfl) (by kernel_rfl) (fun _ _ _ h => h) (Or.inl ⟨by rfl, ?_⟩) (Below.refl _ _) ?_
  rotate_left
  · intro wS hSw
    have hcv := ((hSw.cell (p := ⟨g6, 0, none⟩) (by exact l1)).trans h6)
    go_simp
    try with_reducible rfl
  try simp only [List.getElem_toArray, List.getElem_cons_zero, List.getElem_cons_succ, Act.put, List.setIfInBounds_toArray, List.set_cons_zero, List.set_cons_succ]
  refine wpAnyH_take (i := 1) (v := ?_) rfl (by kernel_rfl) (by kernel_rfl) (by kernel_rfl) (fun _ _ _ h => h) (Or.inl ⟨by rfl, ?_⟩) (Below.refl _ _) ?_
  rotate_left
  · intro wS hSw
    go_simp
    try with_reducible rfl
  try simp only [List.getElem_toArray, List.getElem_cons_zero, List.getElem_cons_succ, Act.put, List.setIfInBounds_toArray, List.set_cons_zero, List.set_cons_succ]
  refine wpAnyH_take (i := 2) (v := ?_) rfl (by kernel_rfl) (by kernel_rfl) (by kernel_rfl) (fun _ _ _ h => h) (Or.inl ⟨by rfl, ?_⟩) (Below.refl _ _) ?_
  rotate_left
  · intro wS hSw
    go_simp
    try with_reducible rfl
  try simp only [List.getElem_toArray, List.getElem_cons_zero, List.getElem_cons_succ, Act.put, List.setIfInBounds_toArray, List.set_cons_zero, List.set_cons_succ]
  refine wpAnyH_take (i := 3) (v := ?_) rfl (by kernel_rfl) (by kernel_rfl) (by kernel_rfl) (fun _ _ _ h => h) (Or.inl ⟨by rfl, ?_⟩) (Below.refl _ _) ?_
  rotate_left
  · intro wS hSw
    have hcv := ((hSw.cell (p := ⟨gw, 1, none⟩) (by exact l2)).trans b1)
    go_simp
    try with_reducible rfl
  try simp only [List.getElem_toArray, List.getElem_cons_zero, List.getElem_cons_succ, Act.put, List.setIfInBounds_toArray, List.set_cons_zero, List.set_cons_succ]
  refine wpAnyH_take (i := 5) (v := ?_) rfl (by kernel_rfl) (by kernel_rfl) (by kernel_rfl) (fun _ _ _ h => h) (Or.inl ⟨by rfl, ?_⟩) (Below.refl _ _) ?_
  rotate_left
  · intro wS hSw
    go_simp
    try with_reducible rfl
  try simp only [List.getElem_toArray, List.getElem_cons_zero, List.getElem_cons_succ, Act.put, List.setIfInBounds_toArray, List.set_cons_zero, List.set_cons_succ]
  refine wpAnyH_take (i := 6) (v := ?_) rfl (by kernel_rfl) (by kernel_rfl) (by kernel_rfl) (fun _ _ _ h => h) (Or.inl ⟨by rfl, ?_⟩) (Below.refl _ _) ?_
  rotate_left
  · intro wS hSw
    have hcv := ((hSw.cell (p := ⟨gr, i, none⟩) (by exact l3)).trans hcell)
    go_simp
    try with_reducible rfl
  try simp only [List.getElem_toArray, List.getElem_cons_zero, List.getElem_cons_succ, Act.put, List.setIfInBounds_toArray, List.set_cons_zero, List.set_cons_succ]
  refine wpAnyH_take (i := 8) (v := ?_) rfl (by kernel_rfl) (by kernel_rfl) (by kernel_rfl) (fun _ _ _ h => h) (Or.inl ⟨by rfl, ?_⟩) (Below.refl _ _) ?_
  rotate_left
  · intro wS hSw
    have hcv := ((hSw.cell (p := ⟨g3, 1, none⟩) (by exact l4)).trans m1)
    go_simp
    try with_reducible rfl
  try simp only [List.getElem_toArray, List.getElem_cons_zero, List.getElem_cons_succ, Act.put, List.setIfInBounds_toArray, List.set_cons_zero, List.set_cons_succ]
  refine wpAnyH_take (i := 10) (v := ?_) rfl (by kernel_rfl) (by kernel_rfl) (by kernel_rfl) (fun _ _ _ h => h) (Or.inl ⟨by rfl, ?_⟩) (Below.refl _ _) ?_
  rotate_left
  · intro wS hSw
    go_simp
    try with_reducible rfl
  try simp only [List.getElem_toArray, List.getElem_cons_zero, List.getElem_cons_succ, Act.put, List.setIfInBounds_toArray, List.set_cons_zero, List.set_cons_succ]
  refine wpAnyH_take (i := 11) (v := ?_) rfl (by kernel_rfl) (by kernel_rfl) (by kernel_rfl) (fun _ _ _ h => h) (Or.inl ⟨by rfl, ?_⟩) (Below.refl _ _) ?_
  rotate_left
  · intro wS hSw
    go_simp
    try with_reducible rfl
  try simp only [List.getElem_toArray, List.getElem_cons_zero, List.getElem_cons_succ, Act.put, List.setIfInBounds_toArray, List.set_cons_zero, List.set_cons_succ]
  refine wpAnyH_take (i := 12) (v := ?_) rfl (by kernel_rfl) (by kernel_rfl) (by kernel_rfl) (fun _ _ _ h => h) (Or.inl ⟨by rfl, ?_⟩) (Below.refl _ _) ?_
  rotate_left
  · intro wS hSw
    have hcv := ((hSw.cell (p := rad.add (cols + j)) (by exact l5)).trans hbyte)
    go_simp
    try with_reducible rfl
  try simp only [List.getElem_toArray, List.getElem_cons_zero, List.getElem_cons_succ, Act.put, List.setIfInBounds_toArray, List.set_cons_zero, List.set_cons_succ]
  refine wpAnyH_take (i := 13) (v := ?_) rfl (by kernel_rfl) (by kernel_rfl) (by kernel_rfl) (fun _ _ _ h => h) (Or.inl ⟨by rfl, ?_⟩) (Below.refl _ _) ?_
  rotate_left
  · intro wS hSw
    go_simp
    try with_reducible rfl
  try simp only [List.getElem_toArray, List.getElem_cons_zero, List.getElem_cons_succ, Act.put, List.setIfInBounds_toArray, List.set_cons_zero, List.set_cons_succ]
  refine wpAnyH_done (by kernel_rfl) ?_ _
  go_wp2
  go_ret
  exact ⟨rfl, below_drewN (Below.refl W.heap.size W) 1⟩
end Cib

end
/-! MatJ -/
section
set_option linter.unusedVariables false
set_option linter.unusedSimpArgs false
set_option maxRecDepth 40000
namespace Cib
open Go Go.RowKit Go.Proofs
/-- What Invert answers of a square matrix. -/
def InvR (g n : Nat) (bs : List UInt8) (w : World) (e : Ending) (w' : World) : Prop :=
  (∃ X, Lin.Inv n (Lin.fl n bs) (Lin.fl n X) ∧ NewM g n n X w e w') ∨ ∃ r, r < n ∧ Lin.Rk n n (Lin.fl n bs) r ∧ NoM g 40 w e w'
set_option maxHeartbeats 4000000 in
theorem matInvert (g n : Nat) (A : Option Addr) (k : Nat) (bs : List UInt8) (w : World) (h : Fld w g) (hr : Rd w w.heap.size A (bs.map bv)) (hg : ∀ ad, A = some ad → ad.block ≠ g) (hbs : bs.length = n * n) (hk : n * n ≤ k) (hn1 : 1 ≤ n) (hn2 : n ≤ 255) :
    Calls Try.prog 83 #[.pointer (some ⟨g, 0, none⟩), .agg (mv n n A (n * n) k)] w (InvR g n bs w) := by
  have hz : Below w.heap.size w ((w.alloc (.cells (mv n n A (n * n) k) 45)).alloc (.cells (mv 0 0 none 0 0) 45)) := ((Below.refl _ _).alloc (Nat.le_refl _) _).alloc (by simp) _
  have hnn : n * n ≤ 65025 := Nat.mul_le_mul hn2 hn2
  have hmr : mr (n : Int) (n : Int) (n * n) = true := mr_true.2 ⟨by omega, by omega, by simp⟩
  have HIW := Lib.hid (InvW.new w n n A (n * n) k)
  have HFA := Lib.hid (h.on hz)
  have HGL := Lib.hid h.lt
  have HZ := Lib.hid hz
  have HRI := Lib.hid fun W => matRight n n A (n * n) k (by omega) W
  rw [hmr] at HRI
  have HRD := Lib.hid hr
  have HHG := Lib.hid hg
  have HBS := Lib.hid hbs
  have HKK := Lib.hid hk
  obtain ⟨T, hT⟩ : ∃ T, n * n = T := ⟨_, rfl⟩
  have HT := Lib.hid hT
  rw [hT] at HRI HFA HZ HIW hk hnn ⊢
  clear h hz hr hg hbs hmr hT
  unfold mv at HRI HFA HZ ⊢
  go_enter Try.func83, Try.ntmps83
  go_wp2_with fail
  refine (matNobody g _ HFA.out).mono ?_
  rintro e w1 ⟨rfl, ha⟩
  have HS1 := Lib.hid (ha.stp2 HZ.out)
  have HI1 := Lib.hid (HIW.out.aft ha HGL.out)
  have m0 := HI1.out.m.cell 0
  have m1 := HI1.out.m.cell 1
  have m2 := HI1.out.m.cell 2
  unfold mv at m0 m1 m2
  simp only [List.getElem?_toArray, List.getElem?_cons_zero, List.getElem?_cons_succ] at m0 m1 m2
  clear ha HFA HIW HZ
  go_wp2_with fail
  refine (HRI.out _).mono ?_
  rintro e w2 ⟨rfl, hb2⟩
  have HI2 := Lib.hid (HI1.out.below hb2)
  have HS2 := Lib.hid (HS1.out.via hb2)
  have n0 := HI2.out.m.cell 0
  have n1 := HI2.out.m.cell 1
  have n2 := HI2.out.m.cell 2
  unfold mv at n0 n1 n2
  simp only [List.getElem?_toArray, List.getElem?_cons_zero, List.getElem?_cons_succ] at n0 n1 n2
  clear hb2 m0 m1 m2 HI1 HS1 HRI
  have HBG := Lib.hid (matBegunT g n n A T k bs w2 HS2.out.full ((HS2.out.rd HRD.out (Nat.le_refl _) HHG.out).more HS2.out.size) HBS.out HT.out.symm hk hn1 hn2 hn2)
  unfold BegR mv at HBG
  go_wp2_with fail
  refine HBG.out.mono ?_
  rintro e w3 ⟨gw, gr, cc, L, rfl, hK3, hL3, hb3⟩
  simp only [if_true] at hK3
  have HI3 := Lib.hid (HI2.out.below hb3)
  have HL3 := Lib.hid hL3
  have hal : Below w3.heap.size w3 (w3.alloc (.cells #[.pointer (some ⟨gw, 0, none⟩)] 139)) := (Below.refl _ _).alloc (Nat.le_refl _) _
  have HK4 := Lib.hid (hK3.via hal)
  have HI4 := Lib.hid (HI3.out.below hal)
  have HB4 := Lib.hid (Blk.new w3 139 #[.pointer (some ⟨gw, 0, none⟩)])
  have hz3 : w.heap.size + 1 < w3.heap.size := HI3.out.z.lt
  have HGB := Lib.hid HS2.out.size
  clear hK3 hL3 hb3 n0 n1 n2 HBG HI2 HI3
  go_upto_region 6 with fail
  generalize hw4 : w3.alloc _ = w4 at *
  generalize hg6 : w3.heap.size = g6 at *
  clear hw4 hg6 hal
  have hP0 : w4.drew.cell? ⟨g6, 0, none⟩ = some (.pointer (some ⟨gw, 0, none⟩)) ∧ w4.drew.cell? ⟨w.heap.size, 0, none⟩ = some (.int .i64 (n : Int)) ∧ w4.drew.cell? ⟨w.heap.size, 1, none⟩ = some (.int .i64 (n : Int)) := ⟨HB4.out.cell 0, HI4.out.m.cell 0, HI4.out.m.cell 1⟩
  have HP0 := Lib.hid hP0
  clear hP0
  refine wp_region_held_drew (S := (fun wQq => wQq.cell? ⟨g6, 0, none⟩ = some (.pointer (some ⟨gw, 0, none⟩)) ∧ wQq.cell? ⟨w.heap.size, 0, none⟩ = some (.int .i64 (n : Int)) ∧ wQq.cell? ⟨w.heap.size, 1, none⟩ = some (.int .i64 (n : Int)))) (by kernel_rfl) (HP0.out) (fun _ => ?_)
  refine wpAnyH_take (i := 1) (v := ?_) rfl (by kernel_rfl) (by kernel_rfl) (by kernel_rfl) (fun _ _ _ h => h) (Or.inl ⟨by rfl, ?_⟩) (HP0.out) ?_
  rotate_left
  · intro wS hSw
    go_simp
    try with_reducible rfl
  try simp only [List.getElem_toArray, List.getElem_cons_zero, List.getElem_cons_succ, Act.put, List.setIfInBounds_toArray, List.set_cons_zero, List.set_cons_succ]
  refine wpAnyH_take (i := 4) (v := ?_) rfl (by kernel_rfl) (by kernel_rfl) (by kernel_rfl) (fun _ _ _ h => h) (Or.inl ⟨by rfl, ?_⟩) (HP0.out) ?_
  rotate_left
  · intro wS hSw
    go_simp
    try with_reducible rfl
  try simp only [List.getElem_toArray, List.getElem_cons_zero, List.getElem_cons_succ, Act.put, List.setIfInBounds_toArray, List.set_cons_zero, List.set_cons_succ]
  refine wpAnyH_take (i := 0) (v := ?_) rfl (by kernel_rfl) (by kernel_rfl) (by kernel_rfl) (fun _ _ _ h => h) (Or.inl ⟨by rfl, ?_⟩) (HP0.out) ?_
  rotate_left
  · intro wS hSw
    have hcv := hSw.1
    go_simp
    try with_reducible rfl
  try simp only [List.getElem_toArray, List.getElem_cons_zero, List.getElem_cons_succ, Act.put, List.setIfInBounds_toArray, List.set_cons_zero, List.set_cons_succ]
  refine wpAnyH_take (i := 2) (v := ?_) rfl (by kernel_rfl) (by kernel_rfl) (by kernel_rfl) (fun _ _ _ h => h) (Or.inl ⟨by rfl, ?_⟩) (HP0.out) ?_
  rotate_left
  · intro wS hSw
    have hcv := hSw.2.2
    go_simp
    try with_reducible rfl
  try simp only [List.getElem_toArray, List.getElem_cons_zero, List.getElem_cons_succ, Act.put, List.setIfInBounds_toArray, List.set_cons_zero, List.set_cons_succ]
  refine wpAnyH_take (i := 5) (v := ?_) rfl (by kernel_rfl) (by kernel_rfl) (by kernel_rfl) (fun _ _ _ h => h) (Or.inl ⟨by rfl, ?_⟩) (HP0.out) ?_
  rotate_left
  · intro wS hSw
    have hcv := hSw.2.1
    go_simp
    try with_reducible rfl
  try simp only [List.getElem_toArray, List.getElem_cons_zero, List.getElem_cons_succ, Act.put, List.setIfInBounds_toArray, List.set_cons_zero, List.set_cons_succ]
  refine wpAnyH_ready (rs := [3]) (by kernel_rfl) (by simp) ?_
  refine AllReadyH.cons rfl (fun K hK => ?_) AllReadyH.nil
  go_simp
  refine (matElim (HK4.out.via (below_drewN (Below.refl _ _) 1)) n (by omega) (by omega) (by omega)).mono ?_
  rintro e w5 ⟨r, L5, rfl, hK5, hE5, hS5⟩
  have HK5 := Lib.hid hK5
  have HE5 := Lib.hid hE5
  have HB5 := Lib.hid (Blk.same (w := w4.drewN 1) HB4.out hS5 (by decide))
  have HM5 := Lib.hid (Blk.same (w := w4.drewN 1) HI4.out.m hS5 (by decide))
  have HZ5 := Lib.hid (Blk.same (w := w4.drewN 1) HI4.out.z hS5 (by decide))
  have HP5 : Hid (w5.cell? ⟨g6, 0, none⟩ = some (.pointer (some ⟨gw, 0, none⟩)) ∧ w5.cell? ⟨w.heap.size, 0, none⟩ = some (.int .i64 (n : Int)) ∧ w5.cell? ⟨w.heap.size, 1, none⟩ = some (.int .i64 (n : Int))) := Lib.hid ⟨HB5.out.cell 0, HM5.out.cell 0, HM5.out.cell 1⟩
  clear hK5 hE5 hS5
  refine hK.out _ _ HP5.out (fun _ => ?_)
  clear hK K
  try simp only [List.getElem_toArray, List.getElem_cons_zero, List.getElem_cons_succ, Act.put, List.setIfInBounds_toArray, List.set_cons_zero, List.set_cons_succ]
  refine wpAnyH_take (i := 6) (v := ?_) rfl (by kernel_rfl) (by kernel_rfl) (by kernel_rfl) (fun _ _ _ h => h) (Or.inl ⟨by rfl, ?_⟩) HP5.out ?_
  rotate_left
  · intro wS hSw
    go_simp
    try with_reducible rfl
  try simp only [List.getElem_toArray, List.getElem_cons_zero, List.getElem_cons_succ, Act.put, List.setIfInBounds_toArray, List.set_cons_zero, List.set_cons_succ]
  refine wpAnyH_done (by kernel_rfl) ?_ _
  have HS5 := Lib.hid (HS2.out.via HK5.out.dat.below)
  have hz5 := HZ5.out
  have HFIN := Lib.hid fun (W : World) (M : Array Value) (e : W = w5.setRow (w.heap.size + 1) M) => (⟨by subst e; exact hz5.row _, by subst e; exact HS5.out.setRow (by omega) (by have := HGL.out; omega) _⟩ : Blk W (w.heap.size + 1) 45 M ∧ Stp g w W)
  have HRE : Hid (Lin.Rk n n (Lin.fl n bs) r) := Lib.hid ((HE5.out.rank (by omega)).congr fun i k hi hk => by rw [HL3.out]; exact Lin.begunL_ent HBS.out true hi hk)
  clear HP0 HK4 HB4 HI4
  by_cases hrn : r < n
  · have HRN := Lib.hid hrn
    clear HK5 HE5 HB5 HM5 HL3
    go_wp2_with (refine wpList_store_row rfl 45 (.tmp 4) (.tmp 33) rfl (w.heap.size + 1) (mv 0 0 none 0 0) rfl rfl 45 (mv 0 0 none 0 0) hz5 matInfo3 rfl (mv_one _ _ _ _ _) ?_)
    refine bodyPost_ret (results_mat2 (g := w.heap.size + 1) (te := 45) (cs := mv 0 0 none 0 0) (fr := (0, 0)) rfl _ _ _ rfl (HFIN.out _ _ rfl).1 Try.underlying45 rfl matInfo3) rfl (.inr ⟨r, HRN.out, HRE.out, rfl, (HFIN.out _ _ rfl).2⟩)
  · have hrle := HE5.out.rle
    obtain rfl : n = r := by omega
    have hrd : decide ((n : Int) < (n : Int)) = false := by simp
    have hm0 := HM5.out.cell 0
    have hm1 := HM5.out.cell 1
    unfold mv at hm0 hm1
    simp only [List.getElem?_toArray, List.getElem?_cons_zero, List.getElem?_cons_succ] at hm0 hm1
    have HIN : Hid (Lin.Inv n (Lin.fl n bs) (Lin.fl n (tabN n (fun i j => Lin.ent (bsL L5) i (n + j)) (n * n)))) := Lib.hid ((HE5.out.inv fun i k hi hk => by rw [HL3.out]; exact Lin.begunL_unit HBS.out hi hk).congr (fun i k hi hk => by rw [HL3.out]; exact (Lin.begunL_ent HBS.out true hi hk).symm) (fun i k hi hk => Lin.fl_tabRC hi hk))
    clear hrn hrle HE5 HL3 HRE
    have HFI := Lib.hid (matFilled 94 #[.pointer (some ⟨g6, 0, none⟩), .pointer (some ⟨w.heap.size, 0, none⟩)] n n hn2 hn2 (fun i j => Lin.ent (bsL L5) i (n + j)) w5 (fun a W => by go_simp) (fun i j hi hj W hW =>
      matInvCell (HK5.out.via hW) g6 w.heap.size n i j n A T k ((HB5.out.below hW HB5.out.lt).cell 0) (HM5.out.below hW HM5.out.lt) hi (by omega) (by omega) (by omega)))
    rw [HT.out] at HFI
    unfold mv at HFI
    go_wp2_with fail
    refine HFI.out.mono ?_
    rintro e w6 ⟨A6, c6, rfl, ho6, hb6⟩
    have hz6 := hz5.below hb6 hz5.lt
    have HO6 := Lib.hid ho6
    have HS6 := Lib.hid (HS5.out.via hb6)
    have HSZ := Lib.hid HS5.out.size
    have HFI2 := Lib.hid fun (W : World) (M : Array Value) (e : W = w6.setRow (w.heap.size + 1) M) => (⟨by subst e; exact hz6.row _, by subst e; exact HS6.out.setRow (by omega) (by have := HGL.out; omega) _⟩ : Blk W (w.heap.size + 1) 45 M ∧ Stp g w W)
    have hlt6 : w.heap.size + 1 < w5.heap.size := hz5.lt
    clear ho6 hb6 hz5 HFI HFIN hm0 hm1 HK5 HB5 HM5
    go_wp2_with (refine wpList_store_row rfl 45 (.tmp 4) (.tmp 39) rfl (w.heap.size + 1) (mv n n A6 T c6) rfl rfl 45 (mv 0 0 none 0 0) hz6 matInfo3 rfl (mv_one _ _ _ _ _) ?_)
    refine bodyPost_ret (results_mat2 (g := w.heap.size + 1) (te := 45) (cs := mv n n A6 T c6) (fr := (0, 0)) rfl _ _ _ rfl (HFI2.out _ _ rfl).1 Try.underlying45 rfl matInfo3) rfl (.inl ⟨_, HIN.out, A6, c6, (by rw [HT.out]; rfl), tabN_length _ _ _, ?_, (HFI2.out _ _ rfl).2⟩)
    rw [HT.out]
    have ho := HO6.out
    refine own_setRow (own_lowerB ho HSZ.out) (fun he => ?_) _
    have := (ho.lt _ he).1
    omega
end Cib

end
