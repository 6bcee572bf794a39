/- A matrix at work in memory: pivot, clean, eliminate. -/
import Derived.Test.YtnicfpkadiamaaaMatM
import Derived.Test.YtnicfpkadiamaaaMatC
import Derived.Test.YtnicfpkadiamaaaDat
set_option linter.unusedVariables false
set_option linter.unusedSimpArgs false
set_option maxRecDepth 40000
namespace Cib
open Go Go.RowKit Go.Proofs
def bsL (L : List RowB) : List (List UInt8) := L.map (·.bs)
theorem bsL_length (L : List RowB) : (bsL L).length = L.length := by simp [bsL]
theorem bsL_get {L : List RowB} {i : Nat} (h : i < L.length) : (bsL L).getD i [] = L[i].bs := by
  rw [List.getD_eq_getElem?_getD, List.getElem?_eq_getElem (by rw [bsL_length]; exact h)]
  simp [bsL]
theorem bsL_set (L : List RowB) (i : Nat) (r : RowB) : bsL (L.set i r) = (bsL L).set i r.bs := by
  unfold bsL
  rw [List.map_set]
theorem bsL_ent {L : List RowB} {i : Nat} (h : i < L.length) (k : Nat) : Lin.ent (bsL L) i k = L[i].bs.getD k 0 := by
  unfold Lin.ent
  rw [bsL_get h]
/-- A matrix at work. -/
structure WkI (w0 : World) (g gw gr n W c : Nat) (L : List RowB) (wr : World) : Prop where
  full : Full wr g
  box : Blk wr gw 75 #[.pointer (some ⟨g, 0, none⟩), .slice (some ⟨gr, 0, none⟩) n c]
  dat : DatI w0 gr n c L wr
  wid : ∀ r ∈ L, r.n = W
  hg : g < w0.heap.size
  hgw : w0.heap.size ≤ gw
section
variable {w0 wr w' : World} {g gw gr n W c : Nat} {L : List RowB}
theorem WkI.via (h : WkI w0 g gw gr n W c L wr) (hb : Below wr.heap.size wr w') : WkI w0 g gw gr n W c L w' :=
  ⟨h.full.on hb, h.box.below hb h.box.lt, h.dat.via hb, h.wid, h.hg, h.hgw⟩
theorem WkI.b0 (h : WkI w0 g gw gr n W c L wr) : wr.cell? ⟨gw, 0, none⟩ = some (.pointer (some ⟨g, 0, none⟩)) := h.box.cell 0
theorem WkI.b1 (h : WkI w0 g gw gr n W c L wr) : wr.cell? ⟨gw, 1, none⟩ = some (.slice (some ⟨gr, 0, none⟩) n c) := h.box.cell 1
theorem WkI.ne (h : WkI w0 g gw gr n W c L wr) : gw ≠ gr := fun e => by
  subst e
  rcases h.dat.own.2 with ⟨h0, _⟩ | ⟨g', cap', cur', h0, _, h2, _⟩
  · cases h0
  · cases h0
    exact absurd (Ty.one (w := wr) ⟨_, _, h2⟩ ⟨_, _, h.box⟩) (by decide)
theorem WkI.gge (h : WkI w0 g gw gr n W c L wr) : w0.heap.size ≤ gr ∧ gr < wr.heap.size := h.dat.own.lt gr rfl
theorem WkI.at (h : WkI w0 g gw gr n W c L wr) {j : Nat} (hj : j < L.length) : L[j].At wr wr.heap.size := h.dat.at _ (List.getElem_mem hj)
theorem WkI.put (h : WkI w0 g gw gr n W c L wr) {j : Nat} (hj : j < L.length) (r : RowB) (hr : wr.ownsRow w0.heap.size 5 1 (.slice r.A r.n r.c) r.n (r.bs.map bv)) (hW : r.n = W) (q : Nat) :
    WkI w0 g gw gr n W c (L.set j r) ((wr.drewN q).setCell ⟨gr, j, none⟩ r.v) := by
  have h1 := h.gge
  have hg := h.hg
  refine ⟨?_, ?_, h.dat.put hj r hr q, fun x hx => ?_, h.hg, h.hgw⟩
  · exact Blk.far (w := wr.drewN q) (t := 67) (cs := fcells 1 0 255) h.full (p := ⟨gr, j, none⟩) (by show g ≠ gr; omega) _
  · exact Blk.far (w := wr.drewN q) h.box (p := ⟨gr, j, none⟩) (by show gw ≠ gr; exact h.ne) _
  · rcases List.mem_or_eq_of_mem_set hx with hx | rfl
    · exact h.wid x hx
    · exact hW
theorem WkI.same_set (h : WkI w0 g gw gr n W c L wr) (j q : Nat) (v : Value) : Same [22] wr ((wr.drewN q).setCell ⟨gr, j, none⟩ v) := fun k t hk ht => by
  refine heap_setCell_other (wr.drewN q) ⟨gr, j, none⟩ k v (fun e => ?_)
  simp only at e
  subst e
  rcases h.dat.own.2 with ⟨h0, _⟩ | ⟨g', cap', cur', h0, _, h2, _⟩
  · cases h0
  · cases h0
    exact ht (by rw [Ty.one hk ⟨_, _, h2⟩]; exact List.mem_singleton.2 rfl)
end
/-- What pivot answers. -/
def PivR (M : List (List UInt8)) (frm col : Nat) (e : Ending) : Prop :=
  (e = .returned (.int .i64 (-1)) ∧ ∀ i, frm ≤ i → i < M.length → Lin.ent M i col = 0) ∨ ∃ q : Nat, e = .returned (.int .i64 (q : Int)) ∧ frm ≤ q ∧ q < M.length ∧ Lin.ent M q col ≠ 0
set_option maxHeartbeats 2000000 in
theorem matPivot {w0 wr : World} {g gw gr n W c : Nat} {L : List RowB} (h : WkI w0 g gw gr n W c L wr) (frm col : Nat) (hf : frm ≤ n) (hc : col < W) (hn : n ≤ 65536) (hW : W ≤ 65536) :
    Calls Try.prog 47 #[.pointer (some ⟨gw, 0, none⟩), .int .i64 (frm : Int), .int .i64 (col : Int)] wr fun e w' => PivR (bsL L) frm col e ∧ w' = wr := by
  have c1 := h.b1
  have hcap := own_cap h.dat.own
  have hLn := h.dat.len
  have hsl := fun W' : World => run_cut_from (P := Try.prog) 73 22 Try.underlying73 sizeRow (some ⟨gr, 0, none⟩) n c frm .i64 hf W'
  have hr0 := (Rd.of_own h.dat.own).cut (c := c) (k := frm) (by rw [List.length_map, hLn]; exact hf) (by rw [List.length_map, hLn]; exact hcap.1)
  rw [← List.map_drop] at hr0
  have HR := Lib.hid hr0
  have HAT := Lib.hid (fun j (hj : j < L.length) => h.at hj)
  have HL := Lib.hid hLn
  have HWD := Lib.hid h.wid
  obtain ⟨m, hm⟩ : ∃ m, n - frm = m := ⟨_, rfl⟩
  obtain ⟨cm, hcm⟩ : ∃ m, c - frm = m := ⟨_, rfl⟩
  rw [hm, hcm] at hsl
  have HM : Hid (n = frm + m) := Lib.hid (by omega)
  have hmb : m ≤ 65536 := by omega
  have hfb : frm ≤ 65536 := by omega
  have hmf : frm + m ≤ 65536 := by omega
  generalize cut (some ⟨gr, 0, none⟩) c frm = A at *
  clear h hr0 hLn hm hcm hf
  go_enter Try.func47, Try.ntmps47
  go_wp2
  go_loop [16] (fun i => ∃ k : Nat, k ≤ m ∧ i = .int .i64 k ∧ Hid (∀ i, i < k → Lin.ent (bsL L) (frm + i) col = 0)) (fun i => m - (intOf i).toNat)
  case atStart => exact ⟨0, Nat.zero_le _, rfl, Lib.hid (fun i hi => by omega)⟩
  case round =>
    obtain ⟨k, hk, rfl, hz⟩ := hrel
    by_cases hlt : k < m
    · have hkL : frm + k < L.length := by rw [HL.out, HM.out]; omega
      obtain ⟨ad, rfl, hab, hcell⟩ := HR.out.row (k := k) (by rw [List.length_drop]; omega)
      rw [List.getElem_drop] at hcell
      have hrow := HAT.out _ hkL
      have hwd := HWD.out _ (List.getElem_mem hkL)
      have HE := Lib.hid (bsL_ent hkL col)
      generalize L[frm + k] = r at *
      obtain ⟨RA, rn, rc, rb⟩ := r
      simp only at hcell hwd HE
      subst hwd
      have hrl : rb.length = rn := hrow.len
      obtain ⟨rad, hra, _, hbyte⟩ := hrow.rd.byte (k := col) (by rw [hrl]; exact hc)
      simp only at hra
      subst hra
      have HX : Hid (Lin.ent (bsL L) (frm + k) col = rb[col]'(by rw [hrl]; exact hc)) := Lib.hid (by
        rw [HE.out, List.getD_eq_getElem?_getD, List.getElem?_eq_getElem (by rw [hrl]; exact hc)]
        rfl)
      generalize rb[col]'(by rw [hrl]; exact hc) = x at *
      have HRL := Lib.hid hrl
      clear hrl hrow hkL HE
      by_cases hx : x = 0
      · subst hx
        have HZ : Hid (∀ i, i < k + 1 → Lin.ent (bsL L) (frm + i) col = 0) := Lib.hid fun i hi => by
          by_cases e : i = k
          · rw [e]
            exact HX.out
          · exact hz.out i (by omega)
        clear hz HX
        go_wp2
        exact ⟨⟨k + 1, hlt, by go_num, HZ⟩, by simp [intOf]; omega⟩
      · have hx0 : x.toNat ≠ 0 := Lin.ne8 hx
        have hb1 : (((x.toNat : Nat) : Int) == 0) = false := by simp; omega
        have hb2 : (((x.toNat : Nat) : Int) != 0) = true := by simp; omega
        have HN : Hid (x ≠ 0) := Lib.hid hx
        clear hx
        go_wp2
        go_ret
        exact ⟨.inr ⟨frm + k, ret_eq (int_eq (by omega)), by omega, by rw [bsL_length, HL.out, HM.out]; omega, by rw [HX.out]; exact HN.out⟩, rfl⟩
    · obtain rfl : k = m := by omega
      clear hlt
      go_wp2
      go_ret
      exact ⟨.inl ⟨rfl, fun i hi hl => by
        rw [bsL_length, HL.out, HM.out] at hl
        have := hz.out (i - frm) (by omega)
        rw [show frm + (i - frm) = i by omega] at this
        exact this⟩, rfl⟩
/-- Cells that a region of clean goes by. -/
structure WkF (g gw gr n c : Nat) (j : Nat) (r : RowB) (w : World) : Prop where
  b0 : w.cell? ⟨gw, 0, none⟩ = some (.pointer (some ⟨g, 0, none⟩))
  b1 : w.cell? ⟨gw, 1, none⟩ = some (.slice (some ⟨gr, 0, none⟩) n c)
  row : w.cell? ⟨gr, j, none⟩ = some (.slice r.A r.n r.c)
theorem WkI.wkf {w0 wr : World} {g gw gr n W c : Nat} {L : List RowB} (h : WkI w0 g gw gr n W c L wr) {j : Nat} (hj : j < L.length) {r : RowB} (e : L[j] = r) : WkF g gw gr n c j r wr := ⟨h.b0, h.b1, by
  have := (h.dat.cell hj).1
  rw [e] at this
  exact this⟩
end Cib
