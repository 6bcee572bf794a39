/- Both products, of any matrices. -/
import Derived.Test.YtnicfpkadiamaaaMatH
import Derived.Test.YtnicfpkadiamaaaMatR
set_option linter.unusedVariables false
set_option linter.unusedSimpArgs false
set_option maxRecDepth 40000
namespace Cib
open Go Go.RowKit Go.Proofs
set_option maxHeartbeats 2000000 in
theorem refMulNo (r c : Int) (A : Option Addr) (n k : Nat) (r2 c2 : Int) (A2 : Option Addr) (n2 k2 : Nat) (w : World) (hno : mr r c n = false ∨ mr r2 c2 n2 = false ∨ c ≠ r2) :
    Calls Try.prog 18 #[.agg (mv r c A n k), .agg (mv r2 c2 A2 n2 k2)] w fun e w' => e = .returned (.tuple #[.agg (mv 0 0 none 0 0), .int .i64 2]) ∧ Below w.heap.size w w' := by
  have HZ := Lib.hid (mq_new w (mv r c A n k) (mv r2 c2 A2 n2 k2))
  have HIW := Lib.hid (MqW.new w (mv r c A n k) (mv r2 c2 A2 n2 k2))
  have HR1 := Lib.hid fun W => refRight4 r c A n k W
  have HR2 := Lib.hid fun W => refRight4 r2 c2 A2 n2 k2 W
  obtain ⟨b, hb⟩ : ∃ b, mr r c n = b := ⟨_, rfl⟩
  obtain ⟨b2, hb2⟩ : ∃ b, mr r2 c2 n2 = b := ⟨_, rfl⟩
  rw [hb] at HR1 hno
  rw [hb2] at HR2 hno
  clear hb hb2
  unfold mv at HR1 HR2 HZ HIW ⊢
  go_enter Try.func18, Try.ntmps18
  go_wp2_with fail
  refine (HR1.out _).mono ?_
  rintro e w2 ⟨rfl, hb2⟩
  have HI2 := Lib.hid (HIW.out.below hb2)
  have HS2 := Lib.hid (HZ.out.via hb2)
  clear hb2
  cases b
  · have hz2 := HI2.out.z
    have HFIN := Lib.hid fun (W : World) (e : W = w2.setRow (w.heap.size + 1 + 1) (mv 0 0 none 0 0)) => (⟨by subst e; exact hz2.row _, by subst e; exact below_setRow HS2.out (by omega) _⟩ : Blk W (w.heap.size + 1 + 1) 24 (mv 0 0 none 0 0) ∧ Below w.heap.size w W)
    go_wp2_with (refine wpList_store_row rfl 24 (.tmp 4) (.tmp 26) rfl (w.heap.size + 1 + 1) (mv 0 0 none 0 0) rfl rfl 24 (mv 0 0 none 0 0) hz2 matInfo3 rfl (mv_one _ _ _ _ _) ?_)
    refine bodyPost_ret (results_mat2 (g := w.heap.size + 1 + 1) (te := 24) (cs := mv 0 0 none 0 0) (fr := (0, 0)) rfl _ _ _ rfl (HFIN.out _ rfl).1 Try.underlying24 rfl matInfo3) rfl ⟨rfl, (HFIN.out _ rfl).2⟩
  · have n0 := HI2.out.n.cell 0
    have n1 := HI2.out.n.cell 1
    have n2 := HI2.out.n.cell 2
    simp only [List.getElem?_toArray, List.getElem?_cons_zero, List.getElem?_cons_succ] at n0 n1 n2
    go_wp2_with fail
    refine (HR2.out _).mono ?_
    rintro e w3 ⟨rfl, hb3⟩
    have HI3 := Lib.hid (HI2.out.below hb3)
    have HS3 := Lib.hid (HS2.out.via hb3)
    clear hb3 n0 n1 n2 HI2 HS2
    have m1 := HI3.out.m.cell 1
    have n0 := HI3.out.n.cell 0
    simp only [List.getElem?_toArray, List.getElem?_cons_zero, List.getElem?_cons_succ] at m1 n0
    have hz3 := HI3.out.z
    have HFIN := Lib.hid fun (W : World) (e : W = w3.setRow (w.heap.size + 1 + 1) (mv 0 0 none 0 0)) => (⟨by subst e; exact hz3.row _, by subst e; exact below_setRow HS3.out (by omega) _⟩ : Blk W (w.heap.size + 1 + 1) 24 (mv 0 0 none 0 0) ∧ Below w.heap.size w W)
    cases b2
    · go_wp2_with (refine wpList_store_row rfl 24 (.tmp 4) (.tmp 26) rfl (w.heap.size + 1 + 1) (mv 0 0 none 0 0) rfl rfl 24 (mv 0 0 none 0 0) hz3 matInfo3 rfl (mv_one _ _ _ _ _) ?_)
      refine bodyPost_ret (results_mat2 (g := w.heap.size + 1 + 1) (te := 24) (cs := mv 0 0 none 0 0) (fr := (0, 0)) rfl _ _ _ rfl (HFIN.out _ rfl).1 Try.underlying24 rfl matInfo3) rfl ⟨rfl, (HFIN.out _ rfl).2⟩
    · have hrc : c ≠ r2 := (hno.resolve_left (by decide)).resolve_left (by decide)
      have hd1 : (c != r2) = true := by simpa using hrc
      have hd2 : (c == r2) = false := by simpa using hrc
      clear hno hrc
      go_wp2_with (refine wpList_store_row rfl 24 (.tmp 4) (.tmp 26) rfl (w.heap.size + 1 + 1) (mv 0 0 none 0 0) rfl rfl 24 (mv 0 0 none 0 0) hz3 matInfo3 rfl (mv_one _ _ _ _ _) ?_)
      refine bodyPost_ret (results_mat2 (g := w.heap.size + 1 + 1) (te := 24) (cs := mv 0 0 none 0 0) (fr := (0, 0)) rfl _ _ _ rfl (HFIN.out _ rfl).1 Try.underlying24 rfl matInfo3) rfl ⟨rfl, (HFIN.out _ rfl).2⟩
/-- A matrix, or none, and a number of an error; in new memory. -/
def AnyM (g : Nat) (r c : Int) (n : Nat) (bs : List UInt8) (err : Int) (w : World) (e : Ending) (w' : World) : Prop :=
  ∃ A k, e = .returned (.tuple #[.agg (mv r c A n k), .int .i64 err]) ∧ w'.ownsRow w.heap.size 5 1 (.slice A n k) n (bs.map bv) ∧ Stp g w w'
def AnyE (r c : Int) (n : Nat) (bs : List UInt8) (err : Int) (w : World) (e : Ending) (w' : World) : Prop :=
  ∃ A k, e = .returned (.tuple #[.agg (mv r c A n k), .int .i64 err]) ∧ w'.ownsRow w.heap.size 5 1 (.slice A n k) n (bs.map bv) ∧ Below w.heap.size w w'
/-- Of any two matrices, both products are the same one, or none. -/
theorem mulBoth (r1 c1 : Int) (A1 : Option Addr) (n1 k1 : Nat) (as_ : List UInt8) (r2 c2 : Int) (A2 : Option Addr) (n2 k2 : Nat) (bs : List UInt8) (hl1 : as_.length = n1) (hl2 : bs.length = n2) (hk1 : n1 ≤ k1) (hk2 : n2 ≤ k2) (hn1 : n1 ≤ 140737488355328) (hn2 : n2 ≤ 140737488355328) :
    ∃ (r c : Int) (n : Nat) (F : List UInt8) (err : Int), F.length = n ∧ ((err = 0 ∧ r = r1 ∧ c = c2 ∧ c1 = r2 ∧ mr r1 c1 n1 = true ∧ mr r2 c2 n2 = true ∧ n = r1.toNat * c2.toNat ∧ F = Lin.mulL r1.toNat c1.toNat c2.toNat as_ bs) ∨ err = 2) ∧
      (∀ g W, Fld W g → Rd W W.heap.size A1 (as_.map bv) → Rd W W.heap.size A2 (bs.map bv) → (0 < n1 → ∀ ad, A1 = some ad → ad.block ≠ g) → (0 < n2 → ∀ ad, A2 = some ad → ad.block ≠ g) →
        Calls Try.prog 20 #[.pointer (some ⟨g, 0, none⟩), .agg (mv r1 c1 A1 n1 k1), .agg (mv r2 c2 A2 n2 k2)] W (AnyM g r c n F err W)) ∧
      (∀ W, Rd W W.heap.size A1 (as_.map bv) → Rd W W.heap.size A2 (bs.map bv) → Calls Try.prog 18 #[.agg (mv r1 c1 A1 n1 k1), .agg (mv r2 c2 A2 n2 k2)] W (AnyE r c n F err W)) := by
  by_cases hno : mr r1 c1 n1 = false ∨ mr r2 c2 n2 = false ∨ c1 ≠ r2
  · refine ⟨0, 0, 0, [], 2, rfl, Or.inr rfl, fun g W hf _ _ _ _ => ?_, fun W _ _ => ?_⟩
    · refine (matMulNo g r1 c1 A1 n1 k1 r2 c2 A2 n2 k2 W hf hn1 hn2 hno).mono ?_
      rintro e w' ⟨rfl, hs⟩
      exact ⟨none, 0, rfl, World.ownsRow_nil _ _ _ _, hs⟩
    · refine (refMulNo r1 c1 A1 n1 k1 r2 c2 A2 n2 k2 W hno).mono ?_
      rintro e w' ⟨rfl, hs⟩
      exact ⟨none, 0, rfl, World.ownsRow_nil _ _ _ _, hs⟩
  · rw [not_or, not_or] at hno
    obtain ⟨ha, hb, hc⟩ := hno
    obtain ⟨⟨ha1, ha2⟩, ⟨ha3, ha4⟩, ha5⟩ := mr_true.1 (Bool.of_not_eq_false ha)
    obtain ⟨⟨hb1, hb2⟩, ⟨hb3, hb4⟩, hb5⟩ := mr_true.1 (Bool.of_not_eq_false hb)
    have hc' : c1 = r2 := Classical.not_not.1 hc
    subst hc'
    obtain ⟨ra, rfl⟩ := Int.eq_ofNat_of_zero_le (show 0 ≤ r1 by omega)
    obtain ⟨ca, rfl⟩ := Int.eq_ofNat_of_zero_le (show 0 ≤ c1 by omega)
    obtain ⟨cb, rfl⟩ := Int.eq_ofNat_of_zero_le (show 0 ≤ c2 by omega)
    have e1 : n1 = ra * ca := by exact_mod_cast ha5
    have e2 : n2 = ca * cb := by exact_mod_cast hb5
    have p1 : 0 < n1 := by rw [e1]; exact Nat.mul_pos (by omega) (by omega)
    have p2 : 0 < n2 := by rw [e2]; exact Nat.mul_pos (by omega) (by omega)
    refine ⟨ra, cb, ra * cb, Lin.mulL ra ca cb as_ bs, 0, Lin.mulL_length _ _ _ _ _, Or.inl ⟨rfl, rfl, rfl, rfl, Bool.of_not_eq_false ha, Bool.of_not_eq_false hb, rfl, rfl⟩, fun g W hf h1 h2 hg1 hg2 => ?_, fun W h1 h2 => ?_⟩
    · refine (matMul g ra ca cb A1 A2 n1 k1 n2 k2 as_ bs W hf h1 h2 (hg1 p1) (hg2 p2) (hl1.trans e1) (hl2.trans e2) e1 e2 hk1 hk2 (by omega) (by omega) (by omega)).mono ?_
      rintro e w' ⟨A, k, rfl, _, ho, hs⟩
      exact ⟨A, k, rfl, ho, hs⟩
    · refine (refMul4 ra ca cb A1 A2 n1 k1 n2 k2 as_ bs W W.heap.size (Nat.le_refl _) h1 h2 (hl1.trans e1) (hl2.trans e2) e1 e2 hk1 hk2 (by omega) (by omega) (by omega)).mono ?_
      rintro e w' ⟨A, k, rfl, _, ho, hs⟩
      exact ⟨A, k, rfl, ho, hs⟩
end Cib
