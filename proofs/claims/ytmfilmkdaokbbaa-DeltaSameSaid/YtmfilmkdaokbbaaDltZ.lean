/- Parity that goes with a change of one data row; rows that the call made, and their list, one row put in another's place; steps that came in. -/
import Derived.Test.YtmfilmkdaokbbaaDltY
import Derived.Test.YtmfilmkdaokbbaaOpenR
import Derived.Test.YtmfilmkdaokbbaaRowsK
set_option linter.unusedVariables false
set_option linter.unusedSimpArgs false
set_option maxRecDepth 20000
namespace Cib
open Go Go.RowKit Go.Proofs Go.ChangeShapes Go.WideShapes Go.Deep
theorem addB_get {a b : List UInt8} {q : Nat} (h1 : q < a.length) (h2 : q < b.length) : ((addB a b).getD q 0).toNat = (a.getD q 0).toNat ^^^ (b.getD q 0).toNat := by
  have h : q < (addB a b).length := by rw [addB_length]; omega
  rw [List.getD_eq_getElem?_getD, List.getElem?_eq_getElem h, List.getD_eq_getElem?_getD, List.getElem?_eq_getElem h1, List.getD_eq_getElem?_getD, List.getElem?_eq_getElem h2]
  simp only [Option.getD_some, addB, List.getElem_zipWith]
  exact Cod.ofNat_toNat (Fld.xor_lt (UInt8.toNat_lt _) (UInt8.toNat_lt _))
theorem len0_set {D : List (List UInt8)} {j : Nat} {y : List UInt8} (hd : 0 < D.length) (hy : y.length = Cod.len0 D) : Cod.len0 (D.set j y) = Cod.len0 D := by
  rw [Cod.len0_eq (by rw [List.length_set]; omega), List.getElem_set]
  split
  · exact hy
  · rw [Cod.len0_eq hd]
/-- Parity that goes with a change is what it would be, made anew. -/
theorem upd_pars {k m j : Nat} {D : List (List UInt8)} {now : List UInt8} (hk : D.length = k) (hj : j < k) (he : Cod.evn D = true) (hn : now.length = Cod.len0 D) :
    Dlt.upd k m j (D.getD j []) now (Cod.pars k D m) = Cod.pars k (D.set j now) m := by
  have hdj : j < D.length := by omega
  have hol : (D.getD j []).length = Cod.len0 D := by
    rw [List.getD_eq_getElem?_getD, List.getElem?_eq_getElem hdj, Option.getD_some]
    rw [Cod.evn_true] at he
    exact he _ (List.getElem_mem _)
  have hal : (addB (D.getD j []) now).length = Cod.len0 D := by rw [addB_length, hol, hn, Nat.min_self]
  unfold Dlt.upd
  apply List.ext_getElem
  · rw [Dlt.adds_length]; simp [Cod.pars]
  · intro i h1 h2
    rw [Dlt.adds_length] at h1
    have hd : ((Dlt.spread k j (addB (D.getD j []) now) (k + m)).drop k).getD i [] = scB (Cod.fac k (k + i) j) (addB (D.getD j []) now) := by
      simp [Dlt.spread, List.getD, show k + i < k + m by omega, h1]
    have hp : (Cod.pars k D m).getD i [] = Cod.shard k D (k + i) := by simp [Cod.pars, List.getD, h1]
    simp only [Dlt.adds, List.getElem_map, List.getElem_range, Cod.pars]
    rw [hd]
    have hp' : ((List.range m).map fun i => Cod.shard k D (k + i)).getD i [] = Cod.shard k D (k + i) := hp
    rw [hp']
    apply List.ext_getElem
    · rw [addB_length, scB_length, Cod.shard_length, Cod.shard_length, hal, len0_set (by omega) hn, Nat.min_self]
    · intro q g1 g2
      have hq : q < Cod.len0 D := by rw [Cod.shard_length, len0_set (by omega) hn] at g2; exact g2
      have hq1 : q < (Cod.shard k D (k + i)).length := by rw [Cod.shard_length]; exact hq
      have hq2 : q < (scB (Cod.fac k (k + i) j) (addB (D.getD j []) now)).length := by rw [scB_length, hal]; exact hq
      have hb : (addB (Cod.shard k D (k + i)) (scB (Cod.fac k (k + i) j) (addB (D.getD j []) now)))[q].toNat = (Cod.shard k D (k + i))[q].toNat ^^^ (scB (Cod.fac k (k + i) j) (addB (D.getD j []) now))[q].toNat := by
        simp only [addB, List.getElem_zipWith]
        exact Cod.ofNat_toNat (Fld.xor_lt (UInt8.toNat_lt _) (UInt8.toNat_lt _))
      apply UInt8.toNat_inj.1
      rw [hb]
      have hc := addB_get (q := q) (a := D.getD j []) (b := now) (by omega) (by omega)
      have hs : (scB (Cod.fac k (k + i) j) (addB (D.getD j []) now))[q].toNat = Fld.gmul (Cod.fac k (k + i) j) ((addB (D.getD j []) now).getD q 0).toNat := by
        have hqa : q < (addB (D.getD j []) now).length := by omega
        have e : (addB (D.getD j []) now).getD q 0 = (addB (D.getD j []) now)[q] := by rw [List.getD_eq_getElem?_getD, List.getElem?_eq_getElem hqa, Option.getD_some]
        rw [e]
        simp only [scB, List.getElem_map]
        exact Cod.ofNat_toNat (Fld.gmul_lt (Cod.fac_lt _ _ _))
      rw [hs, hc]
      simp only [Cod.shard, List.getElem_map, List.getElem_range, List.length_set]
      rw [Cod.ofNat_toNat (Cod.shB_lt _ _ _ _ _), Cod.ofNat_toNat (Cod.shB_lt _ _ _ _ _), shB_change k D (k + i) q j (((D.getD j []).getD q 0).toNat ^^^ (now.getD q 0).toNat) now hdj (by rw [← Nat.xor_assoc, Nat.xor_self, Nat.zero_xor]), if_pos hdj]
/-- Rows that the call made, and their list, in a block of its own. -/
structure DatI (w0 : World) (g k c : Nat) (L : List RowB) (wr : World) : Prop where
  own : wr.ownsRow w0.heap.size 22 1 (.slice (some ⟨g, 0, none⟩) k c) k (L.map RowB.v)
  rows : ∀ r ∈ L, wr.ownsRow w0.heap.size 5 1 (.slice r.A r.n r.c) r.n (r.bs.map bv)
  below : Below w0.heap.size w0 wr
theorem DatI.via {w0 wr w' : World} {g k c : Nat} {L : List RowB} (h : DatI w0 g k c L wr) (hb : Below wr.heap.size wr w') : DatI w0 g k c L w' :=
  ⟨own_via h.own hb, fun r hr => own_via (h.rows r hr) hb, h.below.via hb⟩
theorem DatI.len {w0 wr : World} {g k c : Nat} {L : List RowB} (h : DatI w0 g k c L wr) : L.length = k := by simpa using own_len h.own
theorem DatI.at {w0 wr : World} {g k c : Nat} {L : List RowB} (h : DatI w0 g k c L wr) : RowsAt wr wr.heap.size L := fun r hr =>
  ⟨Rd.of_own (h.rows r hr), by simpa using own_len (h.rows r hr), (own_cap (h.rows r hr)).1, (own_cap (h.rows r hr)).2⟩
theorem DatI.cell {w0 wr : World} {g k c : Nat} {L : List RowB} (h : DatI w0 g k c L wr) {j : Nat} (hj : j < L.length) : wr.cell? ⟨g, j, none⟩ = some L[j].v ∧ wr.frozen? ⟨g, j, none⟩ = false := by
  refine ⟨?_, h.own.frozenAt j⟩
  rw [h.own.cellAt j (by rw [← h.len]; omega)]
  simp [hj]
/-- A block of rows that isn't one of bytes. -/
theorem own_apart {w : World} {b b' g : Nat} {n n' c' : Nat} {v : Value} {xs ys : List Value} (h : w.ownsRow b 5 1 v n xs) (h' : w.ownsRow b' 22 1 (.slice (some ⟨g, 0, none⟩) n' c') n' ys) : v.ownBlock ≠ some g := by
  intro he
  rcases h.2 with ⟨rfl, _⟩ | ⟨g1, cap1, cur1, rfl, _, h2, _⟩
  · simp [Value.ownBlock] at he
  · simp [Value.ownBlock] at he
    subst he
    rcases h'.2 with ⟨h0, _⟩ | ⟨g2, cap2, cur2, h0, _, h3, _⟩
    · cases h0
    · cases h0
      exact absurd (Ty.one (w := w) ⟨_, _, h3⟩ ⟨_, _, h2⟩) rowNe
/-- Another row in one's place. -/
theorem DatI.put {w0 wr : World} {g k c : Nat} {L : List RowB} (h : DatI w0 g k c L wr) {j : Nat} (hj : j < L.length) (r : RowB) (hr : wr.ownsRow w0.heap.size 5 1 (.slice r.A r.n r.c) r.n (r.bs.map bv)) (q : Nat) :
    DatI w0 g k c (L.set j r) ((wr.drewN q).setCell ⟨g, j, none⟩ r.v) := by
  refine ⟨?_, fun s hs => ?_, (h.below.via (below_drewN (Below.refl _ _) q)).setCell (p := ⟨g, j, none⟩) ?_ _⟩
  · rw [List.map_set]
    exact (World.ownsRow.stored (w := wr.drewN q) h.own j r.v).1
  · rcases List.mem_or_eq_of_mem_set hs with hs | rfl
    · exact ownsRow_setCell_other (w := wr.drewN q) (h.rows s hs) (fun he => own_apart (h.rows s hs) h.own he) _
    · exact ownsRow_setCell_other (w := wr.drewN q) hr (fun he => own_apart hr h.own he) _
  · rcases h.own.2 with ⟨h0, _⟩ | ⟨g', cap', cur', h0, h1, _, _⟩
    · cases h0
    · cases h0
      exact h1
/-- Data, and the parity that goes with it. -/
structure SamI (w0 : World) (b g k m W : Nat) (c : Nat) (L : List RowB) (A : Option Addr) (c2 : Nat) (P : List RowB) (wr : World) : Prop where
  dat : DatI w0 g k c L wr
  wid : ∀ r ∈ L, r.n = W
  par : wr.ownsRow b 22 1 (.slice A m c2) m (P.map RowB.v)
  prow : ∀ r ∈ P, wr.ownsRow w0.heap.size 5 1 (.slice r.A r.n r.c) r.n (r.bs.map bv)
  pbs : bss P = Cod.pars k (bss L) m
theorem SamI.via {w0 wr w' : World} {b g k m W c c2 : Nat} {L P : List RowB} {A : Option Addr} (h : SamI w0 b g k m W c L A c2 P wr) (hb : Below wr.heap.size wr w') : SamI w0 b g k m W c L A c2 P w' :=
  ⟨h.dat.via hb, h.wid, own_via h.par hb, fun r hr => own_via (h.prow r hr) hb, h.pbs⟩
theorem SamI.pat {w0 wr : World} {b g k m W c c2 : Nat} {L P : List RowB} {A : Option Addr} (h : SamI w0 b g k m W c L A c2 P wr) : RowsAt wr wr.heap.size P := fun r hr =>
  ⟨Rd.of_own (h.prow r hr), by simpa using own_len (h.prow r hr), (own_cap (h.prow r hr)).1, (own_cap (h.prow r hr)).2⟩
theorem SamI.bl {w0 wr : World} {b g k m W c c2 : Nat} {L P : List RowB} {A : Option Addr} (h : SamI w0 b g k m W c L A c2 P wr) : ∀ r ∈ L, r.bs.length = W := fun r hr => by
  rw [(h.dat.at r hr).len, h.wid r hr]
theorem bss_wid {L : List RowB} {W : Nat} (h : ∀ r ∈ L, r.bs.length = W) (h0 : 0 < L.length) : Cod.evn (bss L) = true ∧ Cod.len0 (bss L) = W := by
  have hl : Cod.len0 (bss L) = W := by
    rw [Cod.len0_eq (by simpa [bss] using h0)]
    simp only [bss, List.getElem_map]
    exact h _ (List.getElem_mem _)
  refine ⟨?_, hl⟩
  rw [Cod.evn_true, hl]
  intro r hr
  obtain ⟨s, hs, rfl⟩ := List.mem_map.1 hr
  exact h s hs
theorem SamI.evn {w0 wr : World} {b g k m W c c2 : Nat} {L P : List RowB} {A : Option Addr} (h : SamI w0 b g k m W c L A c2 P wr) (hk : 1 ≤ k) : Cod.evn (bss L) = true ∧ Cod.len0 (bss L) = W :=
  bss_wid h.bl (by rw [h.dat.len]; omega)
theorem SamI.plen {w0 wr : World} {b g k m W c c2 : Nat} {L P : List RowB} {A : Option Addr} (h : SamI w0 b g k m W c L A c2 P wr) : P.length = m := by simpa using own_len h.par
theorem SamI.pwid {w0 wr : World} {b g k m W c c2 : Nat} {L P : List RowB} {A : Option Addr} (h : SamI w0 b g k m W c L A c2 P wr) (hk : 1 ≤ k) : ∀ r ∈ P, r.n = W := fun r hr => by
  rw [← (h.pat r hr).len]
  have h1 : r.bs ∈ bss P := List.mem_map.2 ⟨r, hr, rfl⟩
  rw [h.pbs] at h1
  simp only [Cod.pars, List.mem_map] at h1
  obtain ⟨i, _, he⟩ := h1
  rw [← he, Cod.shard_length, (h.evn hk).2]
theorem SamI.step {w0 wr w' : World} {b g k m W c c2 c3 : Nat} {L P P' : List RowB} {A A' : Option Addr} (h : SamI w0 b g k m W c L A c2 P wr) (hk : 1 ≤ k) {j : Nat} (hj : j < L.length) (hb : Below wr.heap.size wr w') (now : RowB)
    (hn : w'.ownsRow w0.heap.size 5 1 (.slice now.A now.n now.c) now.n (now.bs.map bv)) (hW : now.n = W) (hg : g < b)
    (hp : w'.ownsRow b 22 1 (.slice A' m c3) m (P'.map RowB.v)) (hr : ∀ r ∈ P', w'.ownsRow w0.heap.size 5 1 (.slice r.A r.n r.c) r.n (r.bs.map bv))
    (hP : bss P' = Dlt.upd k m j L[j].bs now.bs (bss P)) (q : Nat) :
    SamI w0 b g k m W c (L.set j now) A' c3 P' ((w'.drewN q).setCell ⟨g, j, none⟩ now.v) := by
  have hd := h.dat.via hb
  have hnl : now.bs.length = W := by rw [← hW]; simpa using own_len hn
  refine ⟨hd.put hj now hn q, fun r hr => ?_, ?_, fun r hr' => ?_, ?_⟩
  · rcases List.mem_or_eq_of_mem_set hr with hr | rfl
    · exact h.wid r hr
    · exact hW
  · refine ownsRow_setCell_other (w := w'.drewN q) hp (fun he => ?_) _
    have := (hp.lt _ he).1
    simp only at this
    omega
  · exact ownsRow_setCell_other (w := w'.drewN q) (hr r hr') (fun he => own_apart (hr r hr') hd.own he) _
  · obtain ⟨he, h0⟩ := h.evn hk
    have hbl : (bss L).length = k := by simpa [bss] using h.dat.len
    have hjj : L[j].bs = (bss L).getD j [] := by simp [bss, List.getD, hj]
    rw [hP, h.pbs, hjj, upd_pars hbl (by rw [← h.dat.len]; exact hj) he (by rw [hnl, h0]), set_bss]
/-- A step as it came in. -/
structure StepV where
  j : Int
  x : RowB
def stepRow (r : StepV) : List Value := [.int .i64 r.j, r.x.v]
def StepV.ok (w : World) (B : Nat) (r : StepV) : Prop := (-9223372036854775808 ≤ r.j ∧ r.j ≤ 9223372036854775807) ∧ r.x.At w B
theorem open_steps {H : Type} {enc : TypeId × Value → H} {w : World} {held : Bool} {fuel : Nat} {A : Option Addr} {n c : Nat} {x : DataW H × List MemPlace} (h : DataW.trod enc Try.prog w 0 (fun _ => true) held fuel 49 [.slice A n c] = some x) :
    ∃ l : List StepV, l.length = n ∧ n ≤ c ∧ c ≤ maxLen ∧ Rd w w.heap.size A (l.map stepRow).flatten ∧ ∀ x ∈ l, x.ok w w.heap.size := by
  obtain ⟨rows, hrl, hl, hm, hr, hrows⟩ := open_rows Try.underlying49 Try.underlying52 (by kernel_rfl) (by kernel_rfl) (by decide) h
  have hall : ∀ r ∈ rows, ∃ y : { y : StepV // y.ok w w.heap.size }, r = stepRow y.1 := by
    intro r hr
    obtain ⟨hlen, m, hf⟩ := hrows r hr
    obtain ⟨v0, y0, e0, t0⟩ := hf 0 _ rfl
    obtain ⟨v1, y1, e1, t1⟩ := hf 1 _ rfl
    obtain ⟨a, ha, _, wa⟩ := DataW.trod_int Try.underlying3 t0
    obtain ⟨y, hy, oky⟩ := open_row1 t1
    simp only [List.cons.injEq, and_true] at ha hy
    subst ha
    subst hy
    have h3 : r.length = 2 := hlen
    refine ⟨⟨⟨a, y⟩, wf_i64 wa, oky⟩, ?_⟩
    match r, h3 with
    | [r0, r1], _ =>
      simp at e0 e1
      rw [e0, e1]
      rfl
  obtain ⟨l, rfl⟩ := list_map (fun y : { y : StepV // y.ok w w.heap.size } => stepRow y.1) rows hall
  refine ⟨l.map (·.1), by simpa using hrl, hl, hm, by rw [List.map_map]; exact hr, ?_⟩
  intro x hx
  obtain ⟨y, _, rfl⟩ := List.mem_map.1 hx
  exact y.2
theorem step_at {w : World} {B : Nat} {A : Option Addr} {l : List StepV} (h : Rd w B A (l.map stepRow).flatten) {i : Nat} (hi : i < l.length) :
    ∃ b off, A = some ⟨b, off, none⟩ ∧ b < B ∧ w.cell? ⟨b, off + i * 2, none⟩ = some (.int .i64 l[i].j) ∧ w.cell? ⟨b, off + i * 2 + 1, none⟩ = some l[i].x.v := by
  obtain ⟨b, off, e, hb, hc⟩ := Rd.fieldAt (s := 2) h (by intro r hr; obtain ⟨x, _, rfl⟩ := List.mem_map.1 hr; rfl) (i := i) (by simpa using hi) (by decide)
  refine ⟨b, off, e, hb, hc 0 _ ?_, hc 1 _ ?_⟩ <;> simp [stepRow]
end Cib
