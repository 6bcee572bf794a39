/- Mul. -/
import Derived.Test.YtnicfpkadiamaaaMatE
set_option linter.unusedVariables false
set_option linter.unusedSimpArgs false
set_option maxRecDepth 40000
namespace Cib
open Go Go.RowKit Go.Proofs
theorem nilMul (r c : Int) (A : Option Addr) (n k : Nat) (r2 c2 : Int) (A2 : Option Addr) (n2 k2 : Nat) (w : World) : Calls Try.prog 20 #[.pointer none, .agg (mv r c A n k), .agg (mv r2 c2 A2 n2 k2)] w fun e w' => e = .returned (.tuple #[.agg (mv 0 0 none 0 0), .int .i64 1]) ∧ Below w.heap.size w w' := by
  unfold mv
  go_enter Try.func20, Try.ntmps20
  go_wp2_with fail
  refine (nilNobody _).mono ?_
  rintro e w1 ⟨rfl, rfl⟩
  go_wp2
  refine bodyPost_ret (results_mat2 (g := w.heap.size + 1 + 1) (te := 24) (cs := mv 0 0 none 0 0) (fr := (0, 0)) rfl _ _ _ rfl ?_ Try.underlying24 rfl matInfo3) rfl ⟨rfl, ?_⟩
  · have := Blk.new ((w.alloc (.cells (mv r c A n k) 24)).alloc (.cells (mv r2 c2 A2 n2 k2) 24)) 24 (mv 0 0 none 0 0)
    simpa [mv, Blk] using this
  · exact (((Below.refl _ _).alloc (Nat.le_refl _) _).alloc (by simp) _).alloc (by simp; omega) _
/-- Mul's boxes: the matrices, and the result. -/
structure MqW (z : Nat) (M1 M2 : Array Value) (wa : World) : Prop where
  m : Blk wa z 24 M1
  n : Blk wa (z + 1) 24 M2
  z : Blk wa (z + 1 + 1) 24 (mv 0 0 none 0 0)
theorem MqW.new (w : World) (M1 M2 : Array Value) : MqW w.heap.size M1 M2 (((w.alloc (.cells M1 24)).alloc (.cells M2 24)).alloc (.cells (mv 0 0 none 0 0) 24)) :=
  ⟨((Blk.new w _ _).alloc _).alloc _, by have := (Blk.new (w.alloc (.cells M1 24)) 24 M2).alloc (.cells (mv 0 0 none 0 0) 24); simpa using this, by have := Blk.new ((w.alloc (.cells M1 24)).alloc (.cells M2 24)) 24 (mv 0 0 none 0 0); simpa using this⟩
theorem MqW.below {z : Nat} {M1 M2 : Array Value} {wa wb : World} (h : MqW z M1 M2 wa) (hb : Below wa.heap.size wa wb) : MqW z M1 M2 wb := ⟨h.m.below hb h.m.lt, h.n.below hb h.n.lt, h.z.below hb h.z.lt⟩
theorem MqW.aft {z : Nat} {M1 M2 : Array Value} {wa wb : World} {g : Nat} (h : MqW z M1 M2 wa) (ha : Aft g wa wb) (hg : g < z) : MqW z M1 M2 wb := ⟨ha.blk (by omega) h.m, ha.blk (by omega) h.n, ha.blk (by omega) h.z⟩
theorem mq_new (w : World) (M1 M2 : Array Value) : Below w.heap.size w (((w.alloc (.cells M1 24)).alloc (.cells M2 24)).alloc (.cells (mv 0 0 none 0 0) 24)) := (((Below.refl _ _).alloc (Nat.le_refl _) _).alloc (by simp) _).alloc (by simp; omega) _
set_option maxHeartbeats 2000000 in
theorem matMulNo (g : Nat) (r c : Int) (A : Option Addr) (n k : Nat) (r2 c2 : Int) (A2 : Option Addr) (n2 k2 : Nat) (w : World) (h : Fld w g) (hn : n ≤ 140737488355328) (hn2 : n2 ≤ 140737488355328) (hno : mr r c n = false ∨ mr r2 c2 n2 = false ∨ c ≠ r2) :
    Calls Try.prog 20 #[.pointer (some ⟨g, 0, none⟩), .agg (mv r c A n k), .agg (mv r2 c2 A2 n2 k2)] w (NoM g 2 w) := by
  have hz := mq_new w (mv r c A n k) (mv r2 c2 A2 n2 k2)
  have HIW := Lib.hid (MqW.new w (mv r c A n k) (mv r2 c2 A2 n2 k2))
  have HFA := Lib.hid (h.on hz)
  have HGL := Lib.hid h.lt
  have HZ := Lib.hid hz
  have HR1 := Lib.hid fun W => matRight r c A n k hn W
  have HR2 := Lib.hid fun W => matRight r2 c2 A2 n2 k2 hn2 W
  obtain ⟨b, hb⟩ : ∃ b, mr r c n = b := ⟨_, rfl⟩
  obtain ⟨b2, hb2⟩ : ∃ b, mr r2 c2 n2 = b := ⟨_, rfl⟩
  rw [hb] at HR1 hno
  rw [hb2] at HR2 hno
  clear h hz hb hb2
  unfold mv at HR1 HR2 HFA HZ HIW ⊢
  go_enter Try.func20, Try.ntmps20
  go_wp2_with fail
  refine (matNobody g _ HFA.out).mono ?_
  rintro e w1 ⟨rfl, ha⟩
  have HS1 := Lib.hid (ha.stp2 HZ.out)
  have HI1 := Lib.hid (HIW.out.aft ha HGL.out)
  have m0 := HI1.out.m.cell 0
  have m1 := HI1.out.m.cell 1
  have m2 := HI1.out.m.cell 2
  simp only [List.getElem?_toArray, List.getElem?_cons_zero, List.getElem?_cons_succ] at m0 m1 m2
  clear ha HFA HIW HZ
  go_wp2_with fail
  refine (HR1.out _).mono ?_
  rintro e w2 ⟨rfl, hb2⟩
  have HI2 := Lib.hid (HI1.out.below hb2)
  have HS2 := Lib.hid (HS1.out.via hb2)
  clear hb2 m0 m1 m2 HI1 HS1
  cases b
  · have hz2 := HI2.out.z
    have HFIN := Lib.hid fun (W : World) (e : W = w2.setRow (w.heap.size + 1 + 1) (mv 0 0 none 0 0)) => (⟨by subst e; exact hz2.row _, by subst e; exact HS2.out.setRow (by omega) (by have := HGL.out; omega) _⟩ : Blk W (w.heap.size + 1 + 1) 24 (mv 0 0 none 0 0) ∧ Stp g w W)
    go_wp2_with (refine wpList_store_row rfl 24 (.tmp 6) (.tmp 33) rfl (w.heap.size + 1 + 1) (mv 0 0 none 0 0) rfl rfl 24 (mv 0 0 none 0 0) hz2 matInfo3 rfl (mv_one _ _ _ _ _) ?_)
    refine bodyPost_ret (results_mat2 (g := w.heap.size + 1 + 1) (te := 24) (cs := mv 0 0 none 0 0) (fr := (0, 0)) rfl _ _ _ rfl (HFIN.out _ rfl).1 Try.underlying24 rfl matInfo3) rfl ⟨rfl, (HFIN.out _ rfl).2⟩
  · have n0 := HI2.out.n.cell 0
    have n1 := HI2.out.n.cell 1
    have n2 := HI2.out.n.cell 2
    simp only [List.getElem?_toArray, List.getElem?_cons_zero, List.getElem?_cons_succ] at n0 n1 n2
    go_wp2_with fail
    refine (HR2.out _).mono ?_
    rintro e w3 ⟨rfl, hb3⟩
    have HI3 := Lib.hid (HI2.out.below hb3)
    have HS3 := Lib.hid (HS2.out.via hb3)
    clear hb3 n0 n1 n2 HI2 HS2
    have m1 := HI3.out.m.cell 1
    have n0 := HI3.out.n.cell 0
    simp only [List.getElem?_toArray, List.getElem?_cons_zero, List.getElem?_cons_succ] at m1 n0
    have hz3 := HI3.out.z
    have HFIN := Lib.hid fun (W : World) (e : W = w3.setRow (w.heap.size + 1 + 1) (mv 0 0 none 0 0)) => (⟨by subst e; exact hz3.row _, by subst e; exact HS3.out.setRow (by omega) (by have := HGL.out; omega) _⟩ : Blk W (w.heap.size + 1 + 1) 24 (mv 0 0 none 0 0) ∧ Stp g w W)
    cases b2
    · go_wp2_with (refine wpList_store_row rfl 24 (.tmp 6) (.tmp 33) rfl (w.heap.size + 1 + 1) (mv 0 0 none 0 0) rfl rfl 24 (mv 0 0 none 0 0) hz3 matInfo3 rfl (mv_one _ _ _ _ _) ?_)
      refine bodyPost_ret (results_mat2 (g := w.heap.size + 1 + 1) (te := 24) (cs := mv 0 0 none 0 0) (fr := (0, 0)) rfl _ _ _ rfl (HFIN.out _ rfl).1 Try.underlying24 rfl matInfo3) rfl ⟨rfl, (HFIN.out _ rfl).2⟩
    · have hrc : c ≠ r2 := (hno.resolve_left (by decide)).resolve_left (by decide)
      have hd1 : (c != r2) = true := by simpa using hrc
      have hd2 : (c == r2) = false := by simpa using hrc
      clear hno hrc
      go_wp2_with (refine wpList_store_row rfl 24 (.tmp 6) (.tmp 33) rfl (w.heap.size + 1 + 1) (mv 0 0 none 0 0) rfl rfl 24 (mv 0 0 none 0 0) hz3 matInfo3 rfl (mv_one _ _ _ _ _) ?_)
      refine bodyPost_ret (results_mat2 (g := w.heap.size + 1 + 1) (te := 24) (cs := mv 0 0 none 0 0) (fr := (0, 0)) rfl _ _ _ rfl (HFIN.out _ rfl).1 Try.underlying24 rfl matInfo3) rfl ⟨rfl, (HFIN.out _ rfl).2⟩
end Cib
