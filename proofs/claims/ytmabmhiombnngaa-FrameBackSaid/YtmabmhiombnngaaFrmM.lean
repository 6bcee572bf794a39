/- Reading a blob: the closures that take numbers. -/
import Derived.Test.YtmabmhiombnngaaFrmI
import Derived.Test.YtmabmhiombnngaaNumV
set_option linter.unusedVariables false
set_option linter.unusedSimpArgs false
set_option maxRecDepth 40000
namespace Cib
open Go Go.RowKit Go.Proofs
/-- The reader's variables: the error, the bytes, the place. -/
structure TkI (ge gb ga : Nat) (A : Option Addr) (n c : Nat) (st : Frm.St) (W : World) : Prop where
  e : Blk W ge 30 #[.int .i64 (st.2 : Int)]
  b : Blk W gb 26 #[.slice A n c]
  a : Blk W ga 3 #[.int .i64 st.1]
/-- All but two blocks stay as they are. -/
structure But2 (ge ga : Nat) (W W' : World) : Prop where
  bel : ∀ B a, B ≤ ge → B ≤ ga → Below B a W → Below B a W'
  oth : ∀ k, k ≠ ge → k ≠ ga → W'.heap[k]? = W.heap[k]?
  size : W'.heap.size = W.heap.size
theorem But2.refl (ge ga : Nat) (W : World) : But2 ge ga W W := ⟨fun _ _ _ _ h => h, fun _ _ _ => rfl, rfl⟩
theorem But2.set {ge ga : Nat} {W W' : World} (h : But2 ge ga W W') {p : Addr} (hp : p.block = ge ∨ p.block = ga) (v : Value) : But2 ge ga W (W'.setCell p v) where
  bel := fun B a h1 h2 hb => (h.bel B a h1 h2 hb).setCell (by rcases hp with e | e <;> rw [e] <;> assumption) v
  oth := fun k h1 h2 => (heap_setCell_other W' p k v (by rcases hp with e | e <;> rw [e] <;> first | exact h1 | exact h2)).trans (h.oth k h1 h2)
  size := by rw [World.size_setCell]; exact h.size
set_option maxHeartbeats 1000000 in
theorem blobTake (ge gb ga : Nat) (hne : ge ≠ ga ∧ ge ≠ gb ∧ ga ≠ gb) (A : Option Addr) (n c : Nat) (bs : List UInt8) (st : Frm.St) (most : Nat) (W : World) (h : TkI ge gb ga A n c st W) (hr : Rd W W.heap.size A (bs.map bv)) (hl : bs.length = n) (hc : n ≤ c) (hcm : c ≤ maxLen) (hst : 0 ≤ st.1 ∧ st.1 ≤ 9223372036854775807) (hm : most < 18446744073709551616) :
    Calls Try.prog 59 #[.int .u64 (most : Int), .pointer (some ⟨ge, 0, none⟩), .pointer (some ⟨gb, 0, none⟩), .pointer (some ⟨ga, 0, none⟩)] W fun e W' => e = .returned (.int .u64 ((Frm.rdTake bs most st).1 : Int)) ∧ TkI ge gb ga A n c (Frm.rdTake bs most st).2 W' ∧ But2 ge ga W W' := by
  obtain ⟨n1, n2, n3⟩ := hne
  obtain ⟨at_, er⟩ := st
  simp only at hst
  have HV := Lib.hid (Go.Proofs.Ytmabmhiombnngaa.numVar A c bs at_ W W.heap.size hr hl hc hcm ⟨by omega, by omega⟩)
  unfold Go.Proofs.Ytmabmhiombnngaa.varV at HV
  have he := h.e.cell 0
  have hb := h.b.cell 0
  have ha := h.a.cell 0
  simp only [List.getElem?_toArray, List.getElem?_cons_zero] at he hb ha
  have fe := h.e.frozen 0
  have fa := h.a.frozen 0
  have HT := Lib.hid h
  unfold Frm.rdTake
  simp only
  rcases hv : Num.var bs at_ with ⟨v, p, q⟩
  rw [hv] at HV
  simp only at HV
  clear h hv hr hl
  by_cases h0 : er = 0
  · subst h0
    rw [if_neg (by simp)]
    have H1 : Hid (TkI ge gb ga A n c (p, q) ((W.setCell ⟨ga, 0, none⟩ (.int .i64 p)).setCell ⟨ge, 0, none⟩ (.int .i64 (q : Int)))) := Lib.hid ⟨(HT.out.e.far n1 _).set 0 _, (HT.out.b.far (p := ⟨ga, 0, none⟩) (by exact fun e => n3 e.symm) _).far (p := ⟨ge, 0, none⟩) (by exact fun e => n2 e.symm) _, (HT.out.a.set 0 _).far (p := ⟨ge, 0, none⟩) (by exact fun e => n1 e.symm) _⟩
    have H2 : Hid (But2 ge ga W ((W.setCell ⟨ga, 0, none⟩ (.int .i64 p)).setCell ⟨ge, 0, none⟩ (.int .i64 (q : Int)))) := Lib.hid (((But2.refl ge ga W).set (p := ⟨ga, 0, none⟩) (.inr rfl) _).set (p := ⟨ge, 0, none⟩) (.inl rfl) _)
    by_cases hq : q = 0
    · subst hq
      rw [if_neg (by simp)]
      by_cases hmv : most < v
      · rw [if_pos hmv]
        have H3 : Hid (TkI ge gb ga A n c (p, 3) (((W.setCell ⟨ga, 0, none⟩ (.int .i64 p)).setCell ⟨ge, 0, none⟩ (.int .i64 0)).setCell ⟨ge, 0, none⟩ (.int .i64 3))) := Lib.hid ⟨H1.out.e.set 0 _, H1.out.b.far (p := ⟨ge, 0, none⟩) (by exact fun e => n2 e.symm) _, H1.out.a.far (p := ⟨ge, 0, none⟩) (by exact fun e => n1 e.symm) _⟩
        have H4 := Lib.hid (H2.out.set (p := ⟨ge, 0, none⟩) (.inl rfl) (.int .i64 3))
        have hc3 := H3.out.e.cell 0
        simp only [List.getElem?_toArray, List.getElem?_cons_zero] at hc3
        go_enter Try.func59, Try.ntmps59
        go_wp2_with fail
        refine HV.out.mono ?_
        rintro e w' ⟨rfl, rfl⟩
        go_wp2
        go_ret
        exact ⟨rfl, H3.out, H4.out⟩
      · rw [if_neg hmv]
        go_enter Try.func59, Try.ntmps59
        go_wp2_with fail
        refine HV.out.mono ?_
        rintro e w' ⟨rfl, rfl⟩
        go_wp2
        go_ret
        exact ⟨rfl, H1.out, H2.out⟩
    · rw [if_pos hq]
      have hq1 : ((q : Int) == 0) = false := by simpa using hq
      have hq2 : ((q : Int) != 0) = true := by simpa using hq
      clear hq
      go_enter Try.func59, Try.ntmps59
      go_wp2_with fail
      refine HV.out.mono ?_
      rintro e w' ⟨rfl, rfl⟩
      go_wp2
      go_ret
      exact ⟨rfl, H1.out, H2.out⟩
  · rw [if_pos h0]
    have hq2 : ((er : Int) != 0) = true := by simpa using h0
    clear h0 HV
    go_enter Try.func59, Try.ntmps59
    go_wp2
    go_ret
    exact ⟨rfl, HT.out, But2.refl _ _ _⟩
end Cib
