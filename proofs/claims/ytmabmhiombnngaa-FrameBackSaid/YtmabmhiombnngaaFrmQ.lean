/- The reader of records: number, key, flag. -/
import Derived.Test.YtmabmhiombnngaaFrmO
import Derived.Test.YtmabmhiombnngaaNumQ
set_option linter.unusedVariables false
set_option linter.unusedSimpArgs false
set_option maxRecDepth 40000
namespace Cib
open Go Go.RowKit Go.Proofs
/-- The bytes that are read: they lie ahead of the reader. -/
structure Src (w : World) (g : Nat) (A : Option Addr) (n c : Nat) (bs : List UInt8) : Prop where
  rd : Rd w g A (bs.map bv)
  len : bs.length = n
  le : n ≤ c
  cap : c ≤ maxLen
  lim : n ≤ 140737488355328
def StOk (bs : List UInt8) (st : Frm.St) : Prop := 0 ≤ st.1 ∧ st.1 ≤ bs.length
section
variable {w w' : World} {g : Nat} {A : Option Addr} {n c : Nat} {bs : List UInt8} {st : Frm.St}
theorem Src.but (h : Src w g A n c bs) (hb : But g w w') : Src w' g A n c bs := ⟨h.rd.below (hb.bel g w (Nat.le_refl _) (Below.refl _ _)), h.len, h.le, h.cap, h.lim⟩
theorem But.far {v : Value} {p : Addr} (h : But g w w') (hp : w.heap.size ≤ p.block) (hg : g < w.heap.size) : But g w (w'.setCell p v) :=
  ⟨fun B a hB hb => (h.bel B a hB hb).setCell (by omega) v, fun k hk hkg => (heap_setCell_other w' p k v (by omega)).trans (h.oth k hk hkg), by rw [World.size_setCell]; exact h.size⟩
theorem But.alloc (h : But g w w') (hg : g < w.heap.size) (o : Obj) : But g w (w'.alloc o) := h.trans (But.below ((Below.refl _ _).alloc (Nat.le_refl _) _) (Nat.lt_of_lt_of_le hg h.size))
theorem But.drew (h : But g w w') (q : Nat) : But g w (w'.drewN q) := h.trans (But.drewN _ _ _)
theorem num_ok (h : StOk bs st) : StOk bs (Frm.rdNum bs st).2 := by
  have := var_pos bs st.1
  unfold Frm.rdNum StOk at *
  split
  · exact h
  · simp only
    split
    · exact this
    · exact h
theorem num_lt (hl : bs.length ≤ 140737488355328) : (Frm.rdNum bs st).1 < 18446744073709551616 := by
  unfold Frm.rdNum
  split
  · simp only; omega
  · simp only
    by_cases h : (Num.var bs st.1).2.2 = 0
    · obtain ⟨_, _, _, _, _, _, _, h6⟩ := Frm.var_inv h
      exact h6
    · unfold Num.var at h ⊢
      by_cases hc : st.1 < 0 ∨ (bs.length : Int) < st.1
      · rw [if_pos hc]
        decide
      · rw [if_neg hc] at h ⊢
        simp only at h ⊢
        rw [(Num.rv_err _ _ _ h).1]
        omega
theorem fail_st {bad : Bool} {e : Nat} : (Frm.fail bad e st).1 = st.1 := by unfold Frm.fail; split <;> rfl
end
/-- One result, a value in memory. -/
theorem results_cell1 {P : Program} {fn : Func} {p : Tmp} {ty : TypeId} (h : fn.results = #[.cell p ty]) (tmps : Array Value) (w : World) (g : Nat) (v : Value) (d : TypeDesc)
    (hp : tmps.getD p undef = .pointer (some ⟨g, 0, none⟩)) (hg : w.cell? ⟨g, 0, none⟩ = some v)
    (hu : P.underlying ty = some d) (hd : (match d with | .struct _ | .array _ _ => true | _ => false) = false) :
    (results fn tmps).run P w = .ok v w := by
  have hp' : tmps[p]?.getD undef = .pointer (some ⟨g, 0, none⟩) := by simpa using hp
  cases d <;> simp at hd <;> simp [results, h, hp', asAddr, loadVar, isAgg, run_underlying hu, hg]
theorem frmNumber1 (gv : Nat) (x : Value) (g : Nat) (A : Option Addr) (n c : Nat) (bs : List UInt8) (a : Int) (W : World) (hs : Src W g A n c bs) (ha : 0 ≤ a ∧ a ≤ bs.length) (hv : Blk W gv 22 #[x]) :
    Calls Try.prog 40 #[.slice A n c, .int .i64 a, .pointer (some ⟨gv, 0, none⟩)] W fun e W' => e = .returned (.tuple #[.int .i64 (Num.var bs a).2.1, .int .i64 ((Num.var bs a).2.2 : Int)]) ∧ W' = W.setCell ⟨gv, 0, none⟩ (.int .u64 ((Num.var bs a).1 : Int)) := by
  have HV := Lib.hid (Go.Proofs.Ytmabmhiombnngaa.numVar A c bs a W g hs.rd hs.len hs.le hs.cap ⟨by omega, by have := hs.len; have := hs.lim; omega⟩)
  unfold Go.Proofs.Ytmabmhiombnngaa.varV at HV
  have hf := hv.frozen 0
  have hc := hv.cell 0
  simp only [List.getElem?_toArray, List.getElem?_cons_zero] at hc
  clear hs ha hv
  go_enter Try.func40, Try.ntmps40
  go_wp2_with fail
  refine HV.out.mono ?_
  rintro e w' ⟨rfl, rfl⟩
  go_wp2
  go_ret2
  exact ⟨rfl, rfl⟩
theorem frmKey1 (gv : Nat) (x : Value) (g : Nat) (A : Option Addr) (n c : Nat) (bs : List UInt8) (a : Int) (W : World) (hs : Src W g A n c bs) (ha : 0 ≤ a ∧ a ≤ bs.length) (hv : Blk W gv 9 #[x]) :
    Calls Try.prog 50 #[.slice A n c, .int .i64 a, .pointer (some ⟨gv, 0, none⟩)] W fun e W' => e = .returned (.tuple #[.int .i64 (Num.part bs a 16).2.1, .int .i64 ((Num.part bs a 16).2.2 : Int)]) ∧ W' = W.setCell ⟨gv, 0, none⟩ (.string ⟨(Num.part bs a 16).1.toArray⟩) := by
  have HV := Lib.hid (Go.Proofs.Ytmabmhiombnngaa.numText A c bs a 16 W g hs.rd hs.len hs.le hs.cap ⟨by omega, by have := hs.len; have := hs.lim; omega⟩ ⟨by omega, by omega⟩)
  have hf := hv.frozen 0
  have hc := hv.cell 0
  simp only [List.getElem?_toArray, List.getElem?_cons_zero] at hc
  clear hs ha hv
  go_enter Try.func50, Try.ntmps50
  go_wp2_with fail
  refine HV.out.mono ?_
  rintro e w' ⟨rfl, rfl⟩
  go_wp2
  go_ret2
  exact ⟨rfl, rfl⟩
theorem frmFlag1 (gv : Nat) (x : Value) (g : Nat) (A : Option Addr) (n c : Nat) (bs : List UInt8) (a : Int) (W : World) (hs : Src W g A n c bs) (ha : 0 ≤ a ∧ a ≤ bs.length) (hv : Blk W gv 22 #[x]) :
    Calls Try.prog 52 #[.slice A n c, .int .i64 a, .pointer (some ⟨gv, 0, none⟩)] W fun e W' => e = .returned (.tuple #[.int .i64 (a + 1), .int .i64 ((Go.Proofs.Ytmabmhiombnngaa.getP bs a 1).2 : Int)]) ∧ W' = W.setCell ⟨gv, 0, none⟩ (.int .u64 ((Go.Proofs.Ytmabmhiombnngaa.getP bs a 1).1 : Int)) := by
  have HV := Lib.hid (Go.Proofs.Ytmabmhiombnngaa.numGet A c bs a 1 W g hs.rd hs.len hs.le hs.cap ⟨by omega, by have := hs.len; have := hs.lim; omega⟩ ⟨by omega, by omega⟩)
  unfold Go.Proofs.Ytmabmhiombnngaa.getV at HV
  have hf := hv.frozen 0
  have hc := hv.cell 0
  simp only [List.getElem?_toArray, List.getElem?_cons_zero] at hc
  have hw : IntKind.i64.wrap (a + 1) = a + 1 := by rw [IntKind.wrap_i64] <;> (have := hs.len; have := hs.lim; omega)
  clear hs ha hv
  go_enter Try.func52, Try.ntmps52
  go_wp2_with fail
  refine HV.out.mono ?_
  rintro e w' ⟨rfl, rfl⟩
  go_wp2
  go_ret2
  exact ⟨rfl, rfl⟩
set_option maxHeartbeats 1000000 in
theorem frmNumber (g : Nat) (A : Option Addr) (n c : Nat) (bs : List UInt8) (st : Frm.St) (w : World) (hs : Src w g A n c bs) (h : RdI g A n c st w) (ho : StOk bs st) :
    Calls Try.prog 27 #[.pointer (some ⟨g, 0, none⟩)] w fun e W' => e = .returned (.int .u64 ((Frm.rdNum bs st).1 : Int)) ∧ But g w W' ∧ RdI g A n c (Frm.rdNum bs st).2 W' := by
  obtain ⟨a, q0⟩ := st
  have hg := Blk.lt h
  have HB0 := Lib.hid (But.below ((Below.refl w.heap.size w).alloc (Nat.le_refl _) (.cells #[.int .u64 0] 22)) hg)
  have HX0 := Lib.hid (h.below ((Below.refl w.heap.size w).alloc (Nat.le_refl _) (.cells #[.int .u64 0] 22)))
  have HV0 := Lib.hid (Blk.new w 22 #[.int .u64 0])
  unfold Frm.rdNum
  by_cases h0 : q0 = 0
  · subst h0
    rw [if_neg (by simp)]
    have HN := Lib.hid (frmNumber1 w.heap.size (.int .u64 0) g A n c bs a (w.alloc (.cells #[.int .u64 0] 22)).drew ((hs.but HB0.out).but (But.drewN _ _ 1)) ho HV0.out)
    generalize Num.var bs a = V at *
    obtain ⟨v, p, q⟩ := V
    try simp only at HN
    have HP := Lib.hid (frmPart 40 #[.pointer (some ⟨w.heap.size, 0, none⟩)] g A n c a p q (w.alloc (.cells #[.int .u64 0] 22)) (fun W1 => But g w W1 ∧ Blk W1 w.heap.size 22 #[.int .u64 (v : Int)]) (fun a W => by go_simp) HX0.out (HN.out.mono (by
      rintro e W' ⟨rfl, rfl⟩
      exact ⟨rfl, Blk.far HX0.out (by show g ≠ w.heap.size; omega) _, (HB0.out.drew 1).far (Nat.le_refl _) hg, Blk.set (Blk.drewN HV0.out 1) 0 _⟩)))
    simp only
    obtain ⟨st', hst⟩ : ∃ st', (if q = 0 then (p, 0) else (a, q)) = st' := ⟨_, rfl⟩
    rw [hst] at HP ⊢
    clear hs h ho HN HX0 hst
    go_enter Try.func27, Try.ntmps27
    go_wp2_with fail
    refine HP.out.mono ?_
    rintro e w3 ⟨rfl, w2, ⟨hb2, hv2⟩, hb3, hx3⟩
    have HV3 := Lib.hid (hv2.but hb3 (by omega))
    have HB3 := Lib.hid (hb2.trans hb3)
    have HX3 := Lib.hid hx3
    have hf := HV3.out.frozen 0
    have hc := HV3.out.cell 0
    simp only [List.getElem?_toArray, List.getElem?_cons_zero] at hc
    clear hb2 hv2 hb3 hx3 HP HV0 HB0
    go_wp2
    refine bodyPost_ret (results_cell1 (g := w.heap.size) (v := .int .u64 (v : Int)) rfl _ _ _ rfl ((Blk.set HV3.out 0 _).cell 0) Try.underlying22 rfl) rfl ?_
    exact ⟨rfl, HB3.out.far (Nat.le_refl _) hg, Blk.far HX3.out (by show g ≠ w.heap.size; omega) _⟩
  · rw [if_pos h0]
    have HP := Lib.hid (frmPart0 40 #[.pointer (some ⟨w.heap.size, 0, none⟩)] g A n c (a, q0) (w.alloc (.cells #[.int .u64 0] 22)) HX0.out h0)
    have hf := HV0.out.frozen 0
    have hc := HV0.out.cell 0
    simp only [List.getElem?_toArray, List.getElem?_cons_zero] at hc
    clear hs h ho
    go_enter Try.func27, Try.ntmps27
    go_wp2_with fail
    refine HP.out.mono ?_
    rintro e w3 ⟨rfl, rfl⟩
    go_wp2
    refine bodyPost_ret (results_cell1 (g := w.heap.size) (v := .int .u64 0) rfl _ _ _ rfl hc Try.underlying22 rfl) rfl ?_
    exact ⟨rfl, HB0.out, HX0.out⟩
end Cib
