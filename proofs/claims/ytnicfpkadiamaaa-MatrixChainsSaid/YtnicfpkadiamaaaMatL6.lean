/- The law MatrixChains (the steps are printed by genC.py). -/
import Derived.Test.YtnicfpkadiamaaaMatA
import Derived.Test.YtnicfpkadiamaaaMatLw
set_option linter.unusedVariables false
set_option linter.unusedSimpArgs false
set_option maxRecDepth 40000
namespace Cib
open Go Go.RowKit Go.Proofs
/-- Matrices in variables of the call's own, and rows of the call's own. -/
structure ChP (w : World) (bx : List (Nat × Array Value)) (ow : List RowB) (wr : World) : Prop where
  blk : ∀ x ∈ bx, Blk wr x.1 24 x.2
  own : ∀ r ∈ ow, wr.ownsRow w.heap.size 5 1 (.slice r.A r.n r.c) r.n (r.bs.map bv)
  below : Below w.heap.size w wr
theorem mat_fld {w : World} {k g : Nat} {cs : Array Value} (hb : Blk w k 24 cs) (hf : Fld w g) : k ≠ g := by
  rintro rfl
  rcases hf with h | h <;> exact absurd (Ty.one hb.ty h.ty) (by decide)
theorem Fld.ty {w : World} {g : Nat} (hf : Fld w g) : Ty w g 67 := by rcases hf with h | h <;> exact h.ty
section
variable {w wr w' : World} {bx : List (Nat × Array Value)} {ow : List RowB} {g : Nat}
theorem ChP.via (h : ChP w bx ow wr) (hb : Below wr.heap.size wr w') : ChP w bx ow w' := ⟨fun x hx => (h.blk x hx).below hb (h.blk x hx).lt, fun r hr => own_belowS (h.own r hr) hb, h.below.via hb⟩
theorem ChP.stp (h : ChP w bx ow wr) (hf : Fld wr g) (hg : g ≥ w.heap.size) (hs : Stp g wr w') : ChP w bx ow w' :=
  ⟨fun x hx => (hs.oth _ (h.blk x hx).lt (mat_fld (h.blk x hx) hf)).trans (h.blk x hx), fun r hr => own_stp (h.own r hr) hs hf.ty, hs.below h.below hg h.below.size⟩
theorem ChP.push (h : ChP w bx ow w') {b : Nat} (hb : w.heap.size ≤ b) (r c : Int) {A : Option Addr} {n k : Nat} {F : List UInt8} (ho : w'.ownsRow b 5 1 (.slice A n k) n (F.map bv)) :
    ChP w ((w'.heap.size, #[.int .i64 r, .int .i64 c, .slice A n k]) :: bx) (⟨A, n, k, F⟩ :: ow) (w'.alloc (.cells #[.int .i64 r, .int .i64 c, .slice A n k] 24)) := by
  have hal := (Below.refl w'.heap.size w').alloc (Nat.le_refl _) (.cells #[.int .i64 r, .int .i64 c, .slice A n k] 24)
  have h' := h.via hal
  refine ⟨fun x hx => ?_, fun r hr => ?_, h'.below⟩
  · rcases List.mem_cons.1 hx with rfl | hx
    · exact Blk.new _ _ _
    · exact h'.blk x hx
  · rcases List.mem_cons.1 hr with rfl | hr
    · exact own_lowerS (own_belowS ho hal) hb
    · exact h'.own r hr
theorem ChP.cells (h : ChP w bx ow wr) {k : Nat} {r c : Int} {A : Option Addr} {n m : Nat} (hm : (k, #[.int .i64 r, .int .i64 c, .slice A n m]) ∈ bx) : wr.cell? ⟨k, 0, none⟩ = some (.int .i64 r) ∧ wr.cell? ⟨k, 1, none⟩ = some (.int .i64 c) ∧ wr.cell? ⟨k, 2, none⟩ = some (.slice A n m) :=
  ⟨(h.blk _ hm).cell 0, (h.blk _ hm).cell 1, (h.blk _ hm).cell 2⟩
end
theorem ChP.three (w : World) (M1 M2 M3 : Array Value) : ChP w [(w.heap.size + 1 + 1, M3), (w.heap.size + 1, M2), (w.heap.size, M1)] [] (((w.alloc (.cells M1 24)).alloc (.cells M2 24)).alloc (.cells M3 24)) := by
  refine ⟨fun x hx => ?_, fun r hr => (by cases hr), (((Below.refl _ _).alloc (Nat.le_refl _) _).alloc (by simp) _).alloc (by simp; omega) _⟩
  simp only [List.mem_cons, List.not_mem_nil, or_false] at hx
  rcases hx with rfl | rfl | rfl
  · have := Blk.new ((w.alloc (.cells M1 24)).alloc (.cells M2 24)) 24 M3
    simpa using this
  · have := (Blk.new (w.alloc (.cells M1 24)) 24 M2).alloc (.cells M3 24)
    simpa using this
  · exact ((Blk.new w _ _).alloc _).alloc _
/-- A matrix's numbers, read apart from the field. -/
structure MIn (g : Nat) (W : World) (A : Option Addr) (n k : Nat) (bs : List UInt8) : Prop where
  rd : Rd W W.heap.size A (bs.map bv)
  off : 0 < n → ∀ ad, A = some ad → ad.block ≠ g
  len : bs.length = n
  cap : n ≤ k
theorem MIn.own {g b : Nat} {W : World} {A : Option Addr} {n k : Nat} {bs : List UInt8} (ho : W.ownsRow b 5 1 (.slice A n k) n (bs.map bv)) (hf : Fld W g) (hl : bs.length = n) : MIn g W A n k bs := by
  refine ⟨Rd.of_own ho, fun h0 ad e => ?_, hl, (own_cap ho).1⟩
  subst e
  intro e
  rcases ho.2 with ⟨hv, _⟩ | ⟨k', cap, cur, hv, _, h2, _⟩
  · injection hv with hv
    cases hv
  · injection hv with hv
    injection hv with hv
    subst hv
    simp only at e
    subst e
    exact absurd (Ty.one ⟨_, _, h2⟩ hf.ty) (by decide)
theorem mulM (g ra ca cb : Nat) (A1 A2 : Option Addr) (n1 k1 n2 k2 : Nat) (as_ bs : List UInt8) (w : World) (h : Fld w g) (h1 : MIn g w A1 n1 k1 as_) (h2 : MIn g w A2 n2 k2 bs) (e1 : n1 = ra * ca) (e2 : n2 = ca * cb) (hra : 1 ≤ ra ∧ ra ≤ 255) (hca : 1 ≤ ca ∧ ca ≤ 255) (hcb : 1 ≤ cb ∧ cb ≤ 255) :
    Calls Try.prog 20 #[.pointer (some ⟨g, 0, none⟩), .agg #[.int .i64 ra, .int .i64 ca, .slice A1 n1 k1], .agg #[.int .i64 ca, .int .i64 cb, .slice A2 n2 k2]] w fun e w' => ∃ A k, e = .returned (.tuple #[.agg #[.int .i64 ra, .int .i64 cb, .slice A (ra * cb) k], .int .i64 0]) ∧ w'.ownsRow w.heap.size 5 1 (.slice A (ra * cb) k) (ra * cb) ((Lin.mulL ra ca cb as_ bs).map bv) ∧ Stp g w w' := by
  have p1 : 0 < n1 := by rw [e1]; exact Nat.mul_pos (by omega) (by omega)
  have p2 : 0 < n2 := by rw [e2]; exact Nat.mul_pos (by omega) (by omega)
  refine (matMul g ra ca cb A1 A2 n1 k1 n2 k2 as_ bs w h h1.rd h2.rd (h1.off p1) (h2.off p2) (h1.len.trans e1) (h2.len.trans e2) e1 e2 h1.cap h2.cap hra hca hcb).mono ?_
  rintro e w' ⟨A, k, rfl, _, ho, hs⟩
  exact ⟨A, k, rfl, ho, hs⟩
theorem invAny (r c : Nat) (A : Option Addr) (n k : Nat) (bs : List UInt8) (hn : n = r * c) (hr : 1 ≤ r ∧ r ≤ 255) (hc : 1 ≤ c ∧ c ≤ 255) (g : Nat) (W : World) (hf : Fld W g) (h : MIn g W A n k bs) :
    Calls Try.prog 12 #[.pointer (some ⟨g, 0, none⟩), .agg #[.int .i64 r, .int .i64 c, .slice A n k]] W fun e w' => ∃ (r' c' : Int) (n' : Nat) (P : List UInt8) (err : Int), P.length = n' ∧ ((err = 0 ∧ r = c ∧ r' = (r : Int) ∧ c' = (r : Int) ∧ n' = r * r ∧ Lin.Inv r (Lin.fl r bs) (Lin.fl r P)) ∨ err = 2 ∨ err = 40) ∧
      ∃ A' k', e = .returned (.tuple #[.agg #[.int .i64 r', .int .i64 c', .slice A' n' k'], .int .i64 err]) ∧ w'.ownsRow W.heap.size 5 1 (.slice A' n' k') n' (P.map bv) ∧ Stp g W w' := by
  have hle : n ≤ 65025 := by rw [hn]; exact Nat.mul_le_mul hr.2 hc.2
  by_cases hrc : r = c
  · subst hrc
    have p1 : 0 < n := by rw [hn]; exact Nat.mul_pos (by omega) (by omega)
    have := matInvert g r A k bs W hf h.rd (h.off p1) (h.len.trans hn) (by have := h.cap; omega) hr.1 hr.2
    rw [← hn] at this
    refine this.mono fun e w' hi => ?_
    rcases hi with ⟨X, hX, A4, k4, he, hXl, ho, hs⟩ | ⟨r, _, _, he, hs⟩
    · exact ⟨_, _, _, X, 0, hXl, Or.inl ⟨rfl, rfl, rfl, rfl, rfl, hX⟩, A4, k4, he, ho, hs⟩
    · exact ⟨0, 0, 0, [], 40, rfl, Or.inr (Or.inr rfl), none, 0, he, World.ownsRow_nil _ _ _ _, hs⟩
  · refine (matInvertNo g r c A n k W hf (by omega) (.inr (by omega))).mono fun e w' hi => ?_
    exact ⟨0, 0, 0, [], 2, rfl, Or.inr (Or.inl rfl), none, 0, hi.1, World.ownsRow_nil _ _ _ _, hi.2⟩
theorem invFull (r : Nat) (A : Option Addr) (k : Nat) (bs : List UInt8) (g : Nat) (W : World) (hf : Fld W g) (h : MIn g W A (r * r) k bs) (hr : 1 ≤ r ∧ r ≤ 255) {X : Nat → Nat → UInt8} (hi : Lin.Inv r (Lin.fl r bs) X) :
    Calls Try.prog 12 #[.pointer (some ⟨g, 0, none⟩), .agg #[.int .i64 r, .int .i64 r, .slice A (r * r) k]] W fun e w' => ∃ Z, Lin.Inv r (Lin.fl r bs) (Lin.fl r Z) ∧ Z.length = r * r ∧
      ∃ A' k', e = .returned (.tuple #[.agg #[.int .i64 r, .int .i64 r, .slice A' (r * r) k'], .int .i64 0]) ∧ w'.ownsRow W.heap.size 5 1 (.slice A' (r * r) k') (r * r) (Z.map bv) ∧ Stp g W w' := by
  have p1 : 0 < r * r := Nat.mul_pos (by omega) (by omega)
  refine (matInvert g r A k bs W hf h.rd (h.off p1) h.len h.cap hr.1 hr.2).mono fun e w' hR => ?_
  rcases hR with ⟨Z, hZ, A4, k4, he, hZl, ho, hs⟩ | ⟨q, hq, hrk, _⟩
  · exact ⟨Z, hZ, hZl, A4, k4, he, ho, hs⟩
  · have := hi.full hrk
    omega
theorem inv_prod {N : Nat} {as_ bs P Q : List UInt8} (h : Lin.Inv N (Lin.fl N as_) (Lin.fl N P)) (g : Lin.Inv N (Lin.fl N bs) (Lin.fl N Q)) : Lin.Inv N (Lin.fl N (Lin.mulL N N N as_ bs)) (Lin.fl N (Lin.mulL N N N Q P)) :=
  (h.mul g).congr (fun i k hi hk => Lin.mulL_fl hi hk) (fun i k hi hk => Lin.mulL_fl hi hk)
theorem inv_only {N : Nat} {as_ bs P Q : List UInt8} (h : Lin.Inv N (Lin.fl N as_) (Lin.fl N P)) (g : Lin.Inv N (Lin.fl N bs) (Lin.fl N Q)) (Z : List UInt8) (hl : Z.length = N * N) (hN : 1 ≤ N) (hz : Lin.Inv N (Lin.fl N (Lin.mulL N N N as_ bs)) (Lin.fl N Z)) : Lin.mulL N N N Q P = Z := by
  rw [Lin.tab_of (r := N) (c := N) hN hl (val := Lin.fl N Z) (fun i k _ _ => rfl), Lin.tab_of (r := N) (c := N) hN (Lin.mulL_length N N N Q P) (val := Lin.fl N (Lin.mulL N N N Q P)) (fun i k _ _ => rfl)]
  exact Lin.tab_congr hN fun i k hi hk => hz.unique (inv_prod h g).l hi hk
theorem same_own {w W : World} (r c : Int) {x y : RowB} (h : W.ownsRow w.heap.size 5 1 (.slice x.A x.n x.c) x.n (x.bs.map bv)) (h' : W.ownsRow w.heap.size 5 1 (.slice y.A y.n y.c) y.n (y.bs.map bv)) (he : y.bs = x.bs) (hl : x.bs.length = x.n) :
    Calls Try.prog 14 #[.agg #[.int .i64 r, .int .i64 c, .slice x.A x.n x.c], .agg #[.int .i64 r, .int .i64 c, .slice y.A y.n y.c]] W fun e w' => e = .returned (.bool true) ∧ Below W.heap.size W w' := by
  have hl' : y.bs.length = y.n := by have := h'.1; simpa using this
  have := refSame4 r c x.A x.n x.c x.bs r c y.A y.n y.c y.bs W W.heap.size (Nat.le_refl _) (Rd.of_own h) hl (Rd.of_own h') hl'
  rw [show smB r c x.bs r c y.bs = true by rw [he]; simp [smB]] at this
  exact this
theorem in_at {w W : World} {A : Option Addr} {n k : Nat} {bs : List UInt8} (h : Rd w w.heap.size A (bs.map bv)) (hl : bs.length = n) (hk : n ≤ k) {g : Nat} (hb : Below w.heap.size w W) (hg : g ≥ w.heap.size) : MIn g W A n k bs :=
  ⟨(h.below hb).more hb.size, fun h0 ad e => by
    obtain ⟨ad', e', hb', _⟩ := h (by intro e; rw [List.map_eq_nil_iff] at e; rw [e] at hl; simp at hl; omega)
    rw [e] at e'
    injection e' with e'
    subst e'
    omega, hl, hk⟩
set_option maxHeartbeats 2000000 in
theorem lawChainsFew (r1 c1 : Int) (A1 : Option Addr) (n1 k1 : Nat) (r2 c2 : Int) (A2 : Option Addr) (n2 k2 : Nat) (r3 c3 : Int) (A3 : Option Addr) (n3 k3 : Nat) (w : World) (hk1 : n1 ≤ maxLen) (hk2 : n2 ≤ maxLen) (hk3 : n3 ≤ maxLen) (hno : 100 < n1 ∨ 100 < n2 ∨ 100 < n3) :
    Calls Try.prog 6 #[.agg (mv r1 c1 A1 n1 k1), .agg (mv r2 c2 A2 n2 k2), .agg (mv r3 c3 A3 n3 k3)] w fun e w' => e = .returned (.bool true) ∧ Below w.heap.size w w' := by
  unfold maxLen at hk1 hk2 hk3
  have HS := Lib.hid (fun W => lawStands W)
  have HC := Lib.hid (ChP.three w (mv r1 c1 A1 n1 k1) (mv r2 c2 A2 n2 k2) (mv r3 c3 A3 n3 k3))
  unfold mv at HC ⊢
  by_cases h1 : 100 < n1
  · go_enter Try.func6, Try.ntmps6
    go_wp2_with fail
    refine (HS.out _).mono ?_
    rintro e w2 ⟨rfl, hb2⟩
    go_wp2
    go_ret
    exact ⟨rfl, HC.out.below.via hb2⟩
  by_cases h2 : 100 < n2
  · go_enter Try.func6, Try.ntmps6
    go_wp2_with fail
    refine (HS.out _).mono ?_
    rintro e w2 ⟨rfl, hb2⟩
    go_wp2
    go_ret
    exact ⟨rfl, HC.out.below.via hb2⟩
  have h3 : 100 < n3 := by omega
  go_enter Try.func6, Try.ntmps6
  go_wp2_with fail
  refine (HS.out _).mono ?_
  rintro e w2 ⟨rfl, hb2⟩
  go_wp2
  go_ret
  exact ⟨rfl, HC.out.below.via hb2⟩
set_option maxHeartbeats 2000000 in
theorem lawChainsNo (r1 c1 : Int) (A1 : Option Addr) (n1 k1 : Nat) (as_ : List UInt8) (r2 c2 : Int) (A2 : Option Addr) (n2 k2 : Nat) (bs : List UInt8) (r3 c3 : Int) (A3 : Option Addr) (n3 k3 : Nat) (cs : List UInt8) (w : World)
    (h1 : Rd w w.heap.size A1 (as_.map bv)) (h2 : Rd w w.heap.size A2 (bs.map bv)) (h3 : Rd w w.heap.size A3 (cs.map bv)) (hl1 : as_.length = n1) (hl2 : bs.length = n2) (hl3 : cs.length = n3) (hk1 : n1 ≤ k1) (hk2 : n2 ≤ k2) (hk3 : n3 ≤ k3) (hn1 : n1 ≤ 100) (hn2 : n2 ≤ 100) (hn3 : n3 ≤ 100)
    (rab cab : Int) (nab : Nat) (Fab : List UInt8) (e1 : Int) (rbc cbc : Int) (nbc : Nat) (Fbc : List UInt8) (e2 : Int)
    (hAB : ∀ g W, Fld W g → Rd W W.heap.size A1 (as_.map bv) → Rd W W.heap.size A2 (bs.map bv) → (0 < n1 → ∀ ad, A1 = some ad → ad.block ≠ g) → (0 < n2 → ∀ ad, A2 = some ad → ad.block ≠ g) → Calls Try.prog 20 #[.pointer (some ⟨g, 0, none⟩), .agg (mv r1 c1 A1 n1 k1), .agg (mv r2 c2 A2 n2 k2)] W (AnyM g rab cab nab Fab e1 W))
    (hBC : ∀ g W, Fld W g → Rd W W.heap.size A2 (bs.map bv) → Rd W W.heap.size A3 (cs.map bv) → (0 < n2 → ∀ ad, A2 = some ad → ad.block ≠ g) → (0 < n3 → ∀ ad, A3 = some ad → ad.block ≠ g) → Calls Try.prog 20 #[.pointer (some ⟨g, 0, none⟩), .agg (mv r2 c2 A2 n2 k2), .agg (mv r3 c3 A3 n3 k3)] W (AnyM g rbc cbc nbc Fbc e2 W))
    (hE : e1 = 2 ∨ e1 = 0 ∧ e2 = 2) :
    Calls Try.prog 6 #[.agg (mv r1 c1 A1 n1 k1), .agg (mv r2 c2 A2 n2 k2), .agg (mv r3 c3 A3 n3 k3)] w fun e w' => e = .returned (.bool true) ∧ Below w.heap.size w w' := by
  have HS := Lib.hid (fun W => lawStands W)
  have HC := Lib.hid (ChP.three w (mv r1 c1 A1 n1 k1) (mv r2 c2 A2 n2 k2) (mv r3 c3 A3 n3 k3))
  have HAB := Lib.hid fun g W (hf : Fld W g) (hb : Below w.heap.size w W) (hg : g ≥ w.heap.size) => hAB g W hf (in_at h1 hl1 hk1 hb hg).rd (in_at h2 hl2 hk2 hb hg).rd (in_at h1 hl1 hk1 hb hg).off (in_at h2 hl2 hk2 hb hg).off
  have HBC := Lib.hid fun g W (hf : Fld W g) (hb : Below w.heap.size w W) (hg : g ≥ w.heap.size) => hBC g W hf (in_at h2 hl2 hk2 hb hg).rd (in_at h3 hl3 hk3 hb hg).rd (in_at h2 hl2 hk2 hb hg).off (in_at h3 hl3 hk3 hb hg).off
  have HE := Lib.hid hE
  clear h1 h2 h3 hl1 hl2 hl3 hAB hBC hE
  unfold AnyM at HAB HBC
  unfold mv at HC HAB HBC ⊢
  go_enter Try.func6, Try.ntmps6
  go_upto_region 3 with fail
  go_wp2_with fail
  refine (fldNewA _).mono ?_
  rintro e v0 ⟨rfl, hf0, hs0, hb0⟩
  have HC0 := Lib.hid (HC.out.via (hb0 _ _ (Nat.le_refl _) (Below.refl _ _)))
  have HF0 : Hid (Fld v0 (w.heap.size + 1 + 1 + 1)) := Lib.hid (by simpa using hf0)
  have HG : Hid (w.heap.size + 1 + 1 + 1 ≥ w.heap.size) := Lib.hid (by omega)
  clear hf0 hs0 hb0 HC
  go_upto_region 4 with fail
  generalize w.heap.size + 1 + 1 + 1 = gF at *
  obtain ⟨a0, a1, a2⟩ := HC0.out.cells (List.Mem.tail _ (List.Mem.tail _ (List.Mem.head _)))
  obtain ⟨b0, b1, b2⟩ := HC0.out.cells (List.Mem.tail _ (List.Mem.head _))
  go_wp2_with fail
  refine (HAB.out gF v0 HF0.out HC0.out.below HG.out).mono ?_
  rintro e w1 ⟨Aab, kab, rfl, ho, hs⟩
  have HC1 := Lib.hid ((HC0.out.stp HF0.out HG.out hs).push (HC0.out.below.size) rab cab ho)
  have HF1 := Lib.hid (hs.full.fld.on ((Below.refl w1.heap.size w1).alloc (Nat.le_refl _) (.cells #[.int .i64 rab, .int .i64 cab, .slice Aab (nab) kab] 24)))
  clear a0 a1 a2 b0 b1 b2
  clear ho hs HC0 HF0
  go_upto_region 5 with fail
  generalize w1.alloc _ = v1 at *
  generalize w1.heap.size = g1 at *
  obtain ⟨b0, b1, b2⟩ := HC1.out.cells (List.Mem.tail _ (List.Mem.tail _ (List.Mem.head _)))
  obtain ⟨c0, c1, c2⟩ := HC1.out.cells (List.Mem.tail _ (List.Mem.head _))
  go_wp2_with fail
  refine (HBC.out gF v1 HF1.out HC1.out.below HG.out).mono ?_
  rintro e w2 ⟨Abc, kbc, rfl, ho, hs⟩
  have HC2 := Lib.hid ((HC1.out.stp HF1.out HG.out hs).push (HC1.out.below.size) rbc cbc ho)
  have HF2 := Lib.hid (hs.full.fld.on ((Below.refl w2.heap.size w2).alloc (Nat.le_refl _) (.cells #[.int .i64 rbc, .int .i64 cbc, .slice Abc (nbc) kbc] 24)))
  clear b0 b1 b2 c0 c1 c2
  clear ho hs HC1 HF1
  go_upto_region 6 with fail
  generalize w2.alloc _ = v2 at *
  generalize w2.heap.size = g2 at *
  rcases HE.out with he1 | ⟨he1, he2⟩
  · subst he1
    go_wp2_with fail
    refine (HS.out _).mono ?_
    rintro e wz ⟨rfl, hz⟩
    go_wp2
    go_ret
    exact ⟨rfl, HC2.out.below.via hz⟩
  · subst he1
    subst he2
    go_wp2_with fail
    refine (HS.out _).mono ?_
    rintro e wz ⟨rfl, hz⟩
    go_wp2
    go_ret
    exact ⟨rfl, HC2.out.below.via hz⟩
set_option maxHeartbeats 4000000 in
theorem lawChainsGo (ra ca cb cc : Nat) (A1 : Option Addr) (n1 k1 : Nat) (as_ : List UInt8) (A2 : Option Addr) (n2 k2 : Nat) (bs : List UInt8) (A3 : Option Addr) (n3 k3 : Nat) (cs : List UInt8) (w : World)
    (h1 : Rd w w.heap.size A1 (as_.map bv)) (h2 : Rd w w.heap.size A2 (bs.map bv)) (h3 : Rd w w.heap.size A3 (cs.map bv)) (hl1 : as_.length = n1) (hl2 : bs.length = n2) (hl3 : cs.length = n3) (hk1 : n1 ≤ k1) (hk2 : n2 ≤ k2) (hk3 : n3 ≤ k3) (hn1 : n1 ≤ 100) (hn2 : n2 ≤ 100) (hn3 : n3 ≤ 100)
    (e1 : n1 = ra * ca) (e2 : n2 = ca * cb) (e3 : n3 = cb * cc) (hra : 1 ≤ ra ∧ ra ≤ 255) (hca : 1 ≤ ca ∧ ca ≤ 255) (hcb : 1 ≤ cb ∧ cb ≤ 255) (hcc : 1 ≤ cc ∧ cc ≤ 255) :
    Calls Try.prog 6 #[.agg (mv ra ca A1 n1 k1), .agg (mv ca cb A2 n2 k2), .agg (mv cb cc A3 n3 k3)] w fun e w' => e = .returned (.bool true) ∧ Below w.heap.size w w' := by
  have HS := Lib.hid (fun W => lawStands W)
  have HC := Lib.hid (ChP.three w (mv ra ca A1 n1 k1) (mv ca cb A2 n2 k2) (mv cb cc A3 n3 k3))
  have HIa := Lib.hid fun g W (hb : Below w.heap.size w W) (hg : g ≥ w.heap.size) => in_at h1 hl1 hk1 hb hg
  have HIb := Lib.hid fun g W (hb : Below w.heap.size w W) (hg : g ≥ w.heap.size) => in_at h2 hl2 hk2 hb hg
  have HIc := Lib.hid fun g W (hb : Below w.heap.size w W) (hg : g ≥ w.heap.size) => in_at h3 hl3 hk3 hb hg
  have HN1 := Lib.hid e1
  have HN2 := Lib.hid e2
  have HN3 := Lib.hid e3
  have HDra := Lib.hid hra
  have HDca := Lib.hid hca
  have HDcb := Lib.hid hcb
  have HDcc := Lib.hid hcc
  have HAS : Hid (Lin.mulL ra ca cc as_ (Lin.mulL ca cb cc bs cs) = Lin.mulL ra cb cc (Lin.mulL ra ca cb as_ bs) cs) := Lib.hid (Lin.mulL_assoc (by omega)).symm
  clear h1 h2 h3 hl1 hl2 hl3 e1 e2 e3 hra hca hcb hcc
  unfold mv at HC ⊢
  go_enter Try.func6, Try.ntmps6
  go_upto_region 3 with fail
  go_wp2_with fail
  refine (fldNewA _).mono ?_
  rintro e v0 ⟨rfl, hf0, hs0, hb0⟩
  have HC0 := Lib.hid (HC.out.via (hb0 _ _ (Nat.le_refl _) (Below.refl _ _)))
  have HF0 : Hid (Fld v0 (w.heap.size + 1 + 1 + 1)) := Lib.hid (by simpa using hf0)
  have HG : Hid (w.heap.size + 1 + 1 + 1 ≥ w.heap.size) := Lib.hid (by omega)
  clear hf0 hs0 hb0 HC
  go_upto_region 4 with fail
  generalize w.heap.size + 1 + 1 + 1 = gF at *
  obtain ⟨a0, a1, a2⟩ := HC0.out.cells (List.Mem.tail _ (List.Mem.tail _ (List.Mem.head _)))
  obtain ⟨b0, b1, b2⟩ := HC0.out.cells (List.Mem.tail _ (List.Mem.head _))
  go_wp2_with fail
  refine (mulM gF ra ca cb A1 A2 n1 k1 n2 k2 as_ bs v0 HF0.out (HIa.out gF v0 HC0.out.below HG.out) (HIb.out gF v0 HC0.out.below HG.out) HN1.out HN2.out HDra.out HDca.out HDcb.out).mono ?_
  rintro e w1 ⟨Aab, kab, rfl, ho, hs⟩
  have HC1 := Lib.hid ((HC0.out.stp HF0.out HG.out hs).push (HC0.out.below.size) ra cb ho)
  have HF1 := Lib.hid (hs.full.fld.on ((Below.refl w1.heap.size w1).alloc (Nat.le_refl _) (.cells #[.int .i64 ra, .int .i64 cb, .slice Aab (ra * cb) kab] 24)))
  clear a0 a1 a2 b0 b1 b2
  clear ho hs HC0 HF0
  go_upto_region 5 with fail
  generalize w1.alloc _ = v1 at *
  generalize w1.heap.size = g1 at *
  obtain ⟨b0, b1, b2⟩ := HC1.out.cells (List.Mem.tail _ (List.Mem.tail _ (List.Mem.head _)))
  obtain ⟨c0, c1, c2⟩ := HC1.out.cells (List.Mem.tail _ (List.Mem.head _))
  go_wp2_with fail
  refine (mulM gF ca cb cc A2 A3 n2 k2 n3 k3 bs cs v1 HF1.out (HIb.out gF v1 HC1.out.below HG.out) (HIc.out gF v1 HC1.out.below HG.out) HN2.out HN3.out HDca.out HDcb.out HDcc.out).mono ?_
  rintro e w2 ⟨Abc, kbc, rfl, ho, hs⟩
  have HC2 := Lib.hid ((HC1.out.stp HF1.out HG.out hs).push (HC1.out.below.size) ca cc ho)
  have HF2 := Lib.hid (hs.full.fld.on ((Below.refl w2.heap.size w2).alloc (Nat.le_refl _) (.cells #[.int .i64 ca, .int .i64 cc, .slice Abc (ca * cc) kbc] 24)))
  clear b0 b1 b2 c0 c1 c2
  clear ho hs HC1 HF1
  go_upto_region 6 with fail
  generalize w2.alloc _ = v2 at *
  generalize w2.heap.size = g2 at *
  have HLab := Lib.hid (Lin.mulL_length ra ca cb as_ bs)
  have HLbc := Lib.hid (Lin.mulL_length ca cb cc bs cs)
  go_upto_region 8 with fail
  obtain ⟨ab0, ab1, ab2⟩ := HC2.out.cells (List.Mem.tail _ (List.Mem.head _))
  obtain ⟨c0, c1, c2⟩ := HC2.out.cells (List.Mem.tail _ (List.Mem.tail _ (List.Mem.head _)))
  go_wp2_with fail
  refine (mulM gF ra cb cc Aab A3 (ra * cb) kab n3 k3 (Lin.mulL ra ca cb as_ bs) cs v2 HF2.out (MIn.own (HC2.out.own _ (List.Mem.tail _ (List.Mem.head _))) HF2.out HLab.out) (HIc.out gF v2 HC2.out.below HG.out) rfl HN3.out HDra.out HDcb.out HDcc.out).mono ?_
  rintro e w3 ⟨Ax, kx, rfl, ho, hs⟩
  have HC3 := Lib.hid ((HC2.out.stp HF2.out HG.out hs).push (HC2.out.below.size) ra cc ho)
  have HF3 := Lib.hid (hs.full.fld.on ((Below.refl w3.heap.size w3).alloc (Nat.le_refl _) (.cells #[.int .i64 ra, .int .i64 cc, .slice Ax (ra * cc) kx] 24)))
  clear ab0 ab1 ab2 c0 c1 c2
  clear ho hs HC2 HF2
  go_upto_region 9 with fail
  generalize w3.alloc _ = v3 at *
  generalize w3.heap.size = g3 at *
  obtain ⟨a0, a1, a2⟩ := HC3.out.cells (List.Mem.tail _ (List.Mem.tail _ (List.Mem.tail _ (List.Mem.tail _ (List.Mem.tail _ (List.Mem.head _))))))
  obtain ⟨bc0, bc1, bc2⟩ := HC3.out.cells (List.Mem.tail _ (List.Mem.head _))
  go_wp2_with fail
  refine (mulM gF ra ca cc A1 Abc n1 k1 (ca * cc) kbc as_ (Lin.mulL ca cb cc bs cs) v3 HF3.out (HIa.out gF v3 HC3.out.below HG.out) (MIn.own (HC3.out.own _ (List.Mem.tail _ (List.Mem.head _))) HF3.out HLbc.out) HN1.out rfl HDra.out HDca.out HDcc.out).mono ?_
  rintro e w4 ⟨Ay, ky, rfl, ho, hs⟩
  have HC4 := Lib.hid ((HC3.out.stp HF3.out HG.out hs).push (HC3.out.below.size) ra cc ho)
  have HF4 := Lib.hid (hs.full.fld.on ((Below.refl w4.heap.size w4).alloc (Nat.le_refl _) (.cells #[.int .i64 ra, .int .i64 cc, .slice Ay (ra * cc) ky] 24)))
  clear a0 a1 a2 bc0 bc1 bc2
  clear ho hs HC3 HF3
  go_upto_region 10 with fail
  generalize w4.alloc _ = v4 at *
  generalize w4.heap.size = g4 at *
  obtain ⟨x0, x1, x2⟩ := HC4.out.cells (List.Mem.tail _ (List.Mem.head _))
  obtain ⟨y0, y1, y2⟩ := HC4.out.cells (List.Mem.head _)
  have HSA := Lib.hid (same_own ra cc (HC4.out.own _ (List.Mem.tail _ (List.Mem.head _))) (HC4.out.own _ (List.Mem.head _)) HAS.out (Lin.mulL_length _ _ _ _ _))
  go_wp2_with fail
  refine HSA.out.mono ?_
  rintro e w10 ⟨rfl, hb⟩
  have HC10 := Lib.hid (HC4.out.via hb)
  have HF10 := Lib.hid (HF4.out.on hb)
  clear hb HSA HC4 HF4
  clear x0 x1 x2 y0 y1 y2
  go_upto_region 12 with fail
  generalize w10 = v10 at *
  obtain ⟨a0, a1, a2⟩ := HC10.out.cells (List.Mem.tail _ (List.Mem.tail _ (List.Mem.tail _ (List.Mem.tail _ (List.Mem.tail _ (List.Mem.tail _ (List.Mem.head _)))))))
  go_wp2_with fail
  refine (invAny ra ca A1 n1 k1 as_ HN1.out HDra.out HDca.out gF v10 HF10.out (HIa.out gF v10 HC10.out.below HG.out)).mono ?_
  rintro e w11 ⟨rp, cp, np, P, ep, hpl, hpe, Ap, kp, rfl, ho, hs⟩
  have HC11 := Lib.hid ((HC10.out.stp HF10.out HG.out hs).push (HC10.out.below.size) rp cp ho)
  have HF11 := Lib.hid (hs.full.fld.on ((Below.refl w11.heap.size w11).alloc (Nat.le_refl _) (.cells #[.int .i64 rp, .int .i64 cp, .slice Ap (np) kp] 24)))
  clear a0 a1 a2
  clear ho hs HC10 HF10
  go_upto_region 13 with fail
  generalize w11.alloc _ = v11 at *
  generalize w11.heap.size = g11 at *
  have HPE := Lib.hid hpe
  have HPL := Lib.hid hpl
  clear hpe hpl
  obtain ⟨b0, b1, b2⟩ := HC11.out.cells (List.Mem.tail _ (List.Mem.tail _ (List.Mem.tail _ (List.Mem.tail _ (List.Mem.tail _ (List.Mem.tail _ (List.Mem.head _)))))))
  go_wp2_with fail
  refine (invAny ca cb A2 n2 k2 bs HN2.out HDca.out HDcb.out gF v11 HF11.out (HIb.out gF v11 HC11.out.below HG.out)).mono ?_
  rintro e w12 ⟨rq, cq, nq, Q, eq, hql, hqe, Aq, kq, rfl, ho, hs⟩
  have HC12 := Lib.hid ((HC11.out.stp HF11.out HG.out hs).push (HC11.out.below.size) rq cq ho)
  have HF12 := Lib.hid (hs.full.fld.on ((Below.refl w12.heap.size w12).alloc (Nat.le_refl _) (.cells #[.int .i64 rq, .int .i64 cq, .slice Aq (nq) kq] 24)))
  clear b0 b1 b2
  clear ho hs HC11 HF11
  go_upto_region 14 with fail
  generalize w12.alloc _ = v12 at *
  generalize w12.heap.size = g12 at *
  have HQE := Lib.hid hqe
  have HQL := Lib.hid hql
  clear hqe hql
  rcases HPE.out with ⟨rfl, h1, h2, h3, h4, h5⟩ | rfl | rfl
  · rcases HQE.out with ⟨rfl, q1, q2, q3, q4, q5⟩ | rfl | rfl
    · obtain rfl : ra = ca := h1
      obtain rfl : ra = cb := q1
      subst h2 h3 h4 q2 q3 q4
      have HIV := Lib.hid (inv_prod h5 q5)
      have HUN := Lib.hid (inv_only h5 q5)
      clear h5 q5
      go_upto_region 16 with fail
      obtain ⟨ab0, ab1, ab2⟩ := HC12.out.cells (List.Mem.tail _ (List.Mem.tail _ (List.Mem.tail _ (List.Mem.tail _ (List.Mem.tail _ (List.Mem.head _))))))
      go_wp2_with fail
      refine (invFull ra Aab kab (Lin.mulL ra ra ra as_ bs) gF v12 HF12.out (MIn.own (HC12.out.own _ (List.Mem.tail _ (List.Mem.tail _ (List.Mem.tail _ (List.Mem.tail _ (List.Mem.tail _ (List.Mem.head _))))))) HF12.out HLab.out) HDra.out HIV.out).mono ?_
      rintro e w13 ⟨Z, hzi, hzl, Az, kz, rfl, ho, hs⟩
      have HC13 := Lib.hid ((HC12.out.stp HF12.out HG.out hs).push (HC12.out.below.size) ra ra ho)
      have HF13 := Lib.hid (hs.full.fld.on ((Below.refl w13.heap.size w13).alloc (Nat.le_refl _) (.cells #[.int .i64 ra, .int .i64 ra, .slice Az (ra * ra) kz] 24)))
      clear ab0 ab1 ab2
      clear ho hs HC12 HF12
      go_upto_region 17 with fail
      generalize w13.alloc _ = v13 at *
      generalize w13.heap.size = g13 at *
      have HZI := Lib.hid hzi
      have HZL := Lib.hid hzl
      clear hzi hzl
      have HLp := Lib.hid HPL.out
      have HLq := Lib.hid HQL.out
      obtain ⟨q0, q1, q2⟩ := HC13.out.cells (List.Mem.tail _ (List.Mem.head _))
      obtain ⟨p0, p1, p2⟩ := HC13.out.cells (List.Mem.tail _ (List.Mem.tail _ (List.Mem.head _)))
      go_wp2_with fail
      refine (mulM gF ra ra ra Aq Ap (ra * ra) kq (ra * ra) kp Q P v13 HF13.out (MIn.own (HC13.out.own _ (List.Mem.tail _ (List.Mem.head _))) HF13.out HLq.out) (MIn.own (HC13.out.own _ (List.Mem.tail _ (List.Mem.tail _ (List.Mem.head _)))) HF13.out HLp.out) rfl rfl HDra.out HDra.out HDra.out).mono ?_
      rintro e w14 ⟨Aw, kw, rfl, ho, hs⟩
      have HC14 := Lib.hid ((HC13.out.stp HF13.out HG.out hs).push (HC13.out.below.size) ra ra ho)
      have HF14 := Lib.hid (hs.full.fld.on ((Below.refl w14.heap.size w14).alloc (Nat.le_refl _) (.cells #[.int .i64 ra, .int .i64 ra, .slice Aw (ra * ra) kw] 24)))
      clear q0 q1 q2 p0 p1 p2
      clear ho hs HC13 HF13
      go_upto_region 18 with fail
      generalize w14.alloc _ = v14 at *
      generalize w14.heap.size = g14 at *
      obtain ⟨z0, z1, z2⟩ := HC14.out.cells (List.Mem.tail _ (List.Mem.head _))
      obtain ⟨w0, w1, w2⟩ := HC14.out.cells (List.Mem.head _)
      have HEQ := Lib.hid (HUN.out Z HZL.out HDra.out.1 HZI.out)
      have HSB := Lib.hid (same_own ra ra (HC14.out.own _ (List.Mem.tail _ (List.Mem.head _))) (HC14.out.own _ (List.Mem.head _)) HEQ.out HZL.out)
      go_wp2_with fail
      refine HSB.out.mono ?_
      rintro e w15 ⟨rfl, hb⟩
      have HC15 := Lib.hid (HC14.out.via hb)
      clear hb
      clear z0 z1 z2 w0 w1 w2
      go_wp2_with fail
      refine (HS.out _).mono ?_
      rintro e wz ⟨rfl, hz⟩
      go_wp2
      go_ret
      exact ⟨rfl, HC15.out.below.via hz⟩
    · go_wp2_with fail
      refine (HS.out _).mono ?_
      rintro e wz ⟨rfl, hz⟩
      go_wp2
      go_ret
      exact ⟨rfl, HC12.out.below.via hz⟩
    · go_wp2_with fail
      refine (HS.out _).mono ?_
      rintro e wz ⟨rfl, hz⟩
      go_wp2
      go_ret
      exact ⟨rfl, HC12.out.below.via hz⟩
  · go_wp2_with fail
    refine (HS.out _).mono ?_
    rintro e wz ⟨rfl, hz⟩
    go_wp2
    go_ret
    exact ⟨rfl, HC12.out.below.via hz⟩
  · go_wp2_with fail
    refine (HS.out _).mono ?_
    rintro e wz ⟨rfl, hz⟩
    go_wp2
    go_ret
    exact ⟨rfl, HC12.out.below.via hz⟩
/-- The law MatrixChains, of every three matrices. -/
theorem lawChains (r1 c1 : Int) (A1 : Option Addr) (n1 k1 : Nat) (as_ : List UInt8) (r2 c2 : Int) (A2 : Option Addr) (n2 k2 : Nat) (bs : List UInt8) (r3 c3 : Int) (A3 : Option Addr) (n3 k3 : Nat) (cs : List UInt8) (w : World)
    (h1 : Rd w w.heap.size A1 (as_.map bv)) (h2 : Rd w w.heap.size A2 (bs.map bv)) (h3 : Rd w w.heap.size A3 (cs.map bv)) (hl1 : as_.length = n1) (hl2 : bs.length = n2) (hl3 : cs.length = n3) (hk1 : n1 ≤ k1) (hk2 : n2 ≤ k2) (hk3 : n3 ≤ k3) (hm1 : k1 ≤ maxLen) (hm2 : k2 ≤ maxLen) (hm3 : k3 ≤ maxLen) :
    Calls Try.prog 6 #[.agg (mv r1 c1 A1 n1 k1), .agg (mv r2 c2 A2 n2 k2), .agg (mv r3 c3 A3 n3 k3)] w fun e w' => e = .returned (.bool true) ∧ Below w.heap.size w w' := by
  by_cases hno : 100 < n1 ∨ 100 < n2 ∨ 100 < n3
  · exact lawChainsFew r1 c1 A1 n1 k1 r2 c2 A2 n2 k2 r3 c3 A3 n3 k3 w (Nat.le_trans hk1 hm1) (Nat.le_trans hk2 hm2) (Nat.le_trans hk3 hm3) hno
  obtain ⟨rab, cab, nab, Fab, e1, _, hc1, hAB, _⟩ := mulBoth r1 c1 A1 n1 k1 as_ r2 c2 A2 n2 k2 bs hl1 hl2 hk1 hk2 (by omega) (by omega)
  obtain ⟨rbc, cbc, nbc, Fbc, e2, _, hc2, hBC, _⟩ := mulBoth r2 c2 A2 n2 k2 bs r3 c3 A3 n3 k3 cs hl2 hl3 hk2 hk3 (by omega) (by omega)
  rcases hc1 with ⟨a1, -, -, a2, a3, a4, -, -⟩ | a1
  · rcases hc2 with ⟨b1, -, -, b2, b3, b4, -, -⟩ | b1
    · obtain ⟨⟨p1, p2⟩, ⟨p3, p4⟩, p5⟩ := mr_true.1 a3
      obtain ⟨⟨q1, q2⟩, ⟨q3, q4⟩, q5⟩ := mr_true.1 a4
      obtain ⟨⟨s1, s2⟩, ⟨s3, s4⟩, s5⟩ := mr_true.1 b4
      subst a2 b2
      obtain ⟨ra, rfl⟩ := Int.eq_ofNat_of_zero_le (show 0 ≤ r1 by omega)
      obtain ⟨ca, rfl⟩ := Int.eq_ofNat_of_zero_le (show 0 ≤ c1 by omega)
      obtain ⟨cb, rfl⟩ := Int.eq_ofNat_of_zero_le (show 0 ≤ c2 by omega)
      obtain ⟨cc, rfl⟩ := Int.eq_ofNat_of_zero_le (show 0 ≤ c3 by omega)
      exact lawChainsGo ra ca cb cc A1 n1 k1 as_ A2 n2 k2 bs A3 n3 k3 cs w h1 h2 h3 hl1 hl2 hl3 hk1 hk2 hk3 (by omega) (by omega) (by omega) (by exact_mod_cast p5) (by exact_mod_cast q5) (by exact_mod_cast s5) (by omega) (by omega) (by omega) (by omega)
    · exact lawChainsNo r1 c1 A1 n1 k1 as_ r2 c2 A2 n2 k2 bs r3 c3 A3 n3 k3 cs w h1 h2 h3 hl1 hl2 hl3 hk1 hk2 hk3 (by omega) (by omega) (by omega) rab cab nab Fab e1 rbc cbc nbc Fbc e2 hAB hBC (.inr ⟨a1, b1⟩)
  · exact lawChainsNo r1 c1 A1 n1 k1 as_ r2 c2 A2 n2 k2 bs r3 c3 A3 n3 k3 cs w h1 h2 h3 hl1 hl2 hl3 hk1 hk2 hk3 (by omega) (by omega) (by omega) rab cab nab Fab e1 rbc cbc nbc Fbc e2 hAB hBC (.inl a1)
end Cib
