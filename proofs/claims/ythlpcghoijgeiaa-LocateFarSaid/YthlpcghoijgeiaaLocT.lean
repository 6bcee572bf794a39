/- left, even, may. -/
import Derived.Test.YthlpcghoijgeiaaLocW
import Derived.Test.YthlpcghoijgeiaaDecF
import Derived.Maps.OwnSet
import Derived.Maps.OwnOps
set_option linter.unusedVariables false
set_option linter.unusedSimpArgs false
set_option maxRecDepth 40000
namespace Cib
open Go Go.RowKit Go.Proofs Go.Maps Go.WideMaps
theorem intLaw : Keyed Try.prog 3 := int_keyed Try.underlying3
theorem zeroB (w : World) : (zeroValue 4).run Try.prog w = .ok (.bool false) w := by kernel_rfl
theorem plainElem_bool_inv {H : Type} {P : Program} {e : TypeId} (he : P.underlying e = some .bool) {v : Value} {z : DataW H × List MemPlace} (h : plainElem P e v = some z) : ∃ x, v = .bool x ∧ z = (.lit (.bool x), []) := by
  unfold plainElem at h
  rw [he] at h
  cases v <;> simp at h
  subst h
  exact ⟨_, rfl, rfl⟩
theorem wf_nat {i : Nat} (h : i ≤ 1000000000) : (Lit.int .i64 (i : Int)).wf = true := by
  have e1 : IntKind.i64.min = -9223372036854775808 := rfl
  have e2 : IntKind.i64.max = 9223372036854775807 := rfl
  simp only [Lit.wf, Bool.and_eq_true, decide_eq_true_eq]
  omega
theorem ki_inj {i j : Nat} (h : (Lit.int .i64 (i : Int)) = Lit.int .i64 (j : Int)) : i = j := by
  injection h with _ h
  omega
/-- Block b is a set of numbers. -/
def SetIs (w : World) (b N : Nat) (s : List Nat) : Prop := ∃ D : DataW Unit, w.ownsMap Try.prog 3 (plainElem Try.prog 4) b N D ∧ ∀ i : Nat, D.atKey (.int .i64 (i : Int)) (.lit (.bool false)) = .lit (.bool (s.contains i))
section
variable {w w' : World} {b N : Nat} {s : List Nat}
theorem SetIs.lt (h : SetIs w b N s) : b < w.heap.size := by
  obtain ⟨D, h, _⟩ := h
  exact h.lt
theorem SetIs.heap (h : SetIs w b N s) (e : w'.heap[b]? = w.heap[b]?) : SetIs w' b N s := by
  obtain ⟨D, ⟨es, cl, h1, h2, h3, h4⟩, hr⟩ := h
  exact ⟨D, ⟨es, cl, e.trans h1, h2, h3, h4⟩, hr⟩
theorem SetIs.below (h : SetIs w b N s) (hb : Below w.heap.size w w') : SetIs w' b N s := h.heap (hb.block b h.lt)
theorem SetIs.made (w : World) : SetIs (w.alloc (.map #[] 0)) w.heap.size 0 [] := ⟨.map [], World.ownsMap_made w _ _ _, fun s => rfl⟩
theorem SetIs.look (h : SetIs w b N s) (i : Nat) (hi : i ≤ 1000000000) : (Instr.lookup 105 (.map (some b)) (.int .i64 (i : Int)) false).run Try.prog w = .ok (.bool (s.contains i)) w := by
  obtain ⟨D, h, hr⟩ := h
  obtain ⟨v, ps, hrun, hv⟩ := h.lookup (t := 105) intLaw Try.underlying105 (zeroB w) (plainElem_bool Try.underlying4 false) (keyOf_int_mk Try.underlying3 (wf_nat hi))
  obtain ⟨x, rfl, hx⟩ := plainElem_bool_inv Try.underlying4 hv
  rw [hr i] at hx
  injection hx with hx
  injection hx with hx
  injection hx with hx
  rw [hrun, hx]
theorem SetIs.put (h : SetIs w b N s) (hN : N < maxLen) {ops : Array Oper} {rest : List Oper} {o : Oper} {a : Act} {Q : Exit → Act → World → Prop} (hg : o.guard = none) (m x v : Operand) (hop : o.op = Op.mapUpdate 105 m x v) (hm : a.eval m = .map (some b)) (i : Nat) (hi : i ≤ 1000000000) (hx : a.eval x = .int .i64 (i : Int)) (hv : a.eval v = .bool true)
    (hK : ∀ w', SetIs w' b (N + 1) (s ++ [i]) → w.grownBy w' (some b) → wpList Try.prog ops Q rest (a.put o.dst undef) w') : wpList Try.prog ops Q (o :: rest) a w := by
  obtain ⟨D, hD, hr⟩ := h
  refine wpList_mapUpdate_own w hg m x v _ hop 3 4 intLaw Try.underlying105 (plainElem Try.prog 4) b N D hm hD hN (.int .i64 (i : Int)) (.bool true) (.int .i64 (i : Int)) hx hv (keyOf_int_mk Try.underlying3 (wf_nat hi)) (.lit (.bool true)) [] (plainElem_bool Try.underlying4 true) fun w' h1 h2 => hK w' ⟨_, h1, fun j => ?_⟩ h2
  by_cases e : j = i
  · subst e
    rw [atKey_put_same hD.isMap (by first | trivial | exact wf_nat hi)]
    simp
  · rw [atKey_put_other (fun h => e (ki_inj h)), hr j]
    simp [e]
end
/-- A row taken away, or not. -/
def rowL (s : List Nat) (r : RowB) (i : Nat) : RowB := if s.contains i then ⟨none, 0, 0, []⟩ else r
/-- The rows that are left. -/
def leftL (s : List Nat) (L : List RowB) (p : Nat) : List RowB := (List.range p).map fun i => rowL s (L.getD i ⟨none, 0, 0, []⟩) i
theorem leftL_length (s : List Nat) (L : List RowB) (p : Nat) : (leftL s L p).length = p := by simp [leftL]
theorem leftL_get {s : List Nat} {L : List RowB} {p i : Nat} (hi : i < p) (hl : i < L.length) : (leftL s L p).getD i ⟨none, 0, 0, []⟩ = rowL s L[i] i := by simp [leftL, List.getD, hi, hl]
theorem leftL_mem {s : List Nat} {L : List RowB} {p : Nat} (hp : p ≤ L.length) {r : RowB} (h : r ∈ leftL s L p) : r = ⟨none, 0, 0, []⟩ ∨ r ∈ L := by
  simp only [leftL, List.mem_map, List.mem_range] at h
  obtain ⟨i, hi, rfl⟩ := h
  unfold rowL
  split
  · exact .inl rfl
  · refine .inr ?_
    have : i < L.length := by omega
    simp [List.getD, this]
theorem leftL_snoc (s : List Nat) (L : List RowB) (p : Nat) (hp : p < L.length) : leftL s L (p + 1) = leftL s L p ++ [rowL s L[p] p] := by simp [leftL, List.range_succ, List.getD, hp]
theorem leftL_bss {s : List Nat} {L : List RowB} {n i : Nat} (hn : L.length = n) (hi : i < n) : (bss (leftL s L n)).getD i [] = if s.contains i then [] else (bss L).getD i [] := by
  have h1 : i < (leftL s L n).length := by rw [leftL_length]; exact hi
  have h2 : i < L.length := by omega
  have h3 : (leftL s L n)[i] = rowL s L[i] i := by
    have := leftL_get (s := s) (p := n) hi h2
    rw [List.getD_eq_getElem?_getD, List.getElem?_eq_getElem h1, Option.getD_some] at this
    exact this
  rw [bss_get h1, bss_get h2, h3]
  unfold rowL
  split <;> rfl
/-- left under way. -/
structure LfI (w : World) (n : Nat) (s : List Nat) (L : List RowB) (p : Nat) (wr : World) : Prop where
  own : wr.ownsRow w.heap.size 22 1 (.slice (some ⟨w.heap.size, 0, none⟩) n n) n ((leftL s L p).map RowB.v ++ List.replicate (n - p) (.slice none 0 0))
  below : Below w.heap.size w wr
theorem LfI.cells {w wr : World} {n p : Nat} {s : List Nat} {L : List RowB} (h : LfI w n s L p wr) (hp : p < n) : (∃ v, wr.cell? ⟨w.heap.size, p, none⟩ = some v) ∧ wr.frozen? ⟨w.heap.size, p, none⟩ = false := by
  refine ⟨?_, h.own.frozenAt p⟩
  have hl : ((leftL s L p).map RowB.v ++ List.replicate (n - p) (Value.slice none 0 0)).length = n := by
    simp [leftL_length]
    omega
  exact ⟨_, (h.own.cellAt p (by omega)).trans (List.getElem?_eq_getElem (by rw [hl]; exact hp))⟩
theorem LfI.skip {w wr : World} {n p : Nat} {s : List Nat} {L : List RowB} (h : LfI w n s L p wr) (hp : p < n) (hl : p < L.length) (hs : s.contains p = true) : LfI w n s L (p + 1) wr := by
  refine ⟨?_, h.below⟩
  have e : (leftL s L (p + 1)).map RowB.v ++ List.replicate (n - (p + 1)) (Value.slice none 0 0) = (leftL s L p).map RowB.v ++ List.replicate (n - p) (.slice none 0 0) := by
    rw [leftL_snoc s L p hl, List.map_append, List.append_assoc]
    congr 1
    rw [show n - p = (n - (p + 1)) + 1 from by omega, List.replicate_succ]
    unfold rowL
    rw [if_pos hs]
    rfl
  rw [e]
  exact h.own
theorem LfI.push {w wr : World} {n p : Nat} {s : List Nat} {L : List RowB} (h : LfI w n s L p wr) (hp : p < n) (hl : p < L.length) (hs : s.contains p = false) : LfI w n s L (p + 1) (wr.setCell ⟨w.heap.size, p, none⟩ L[p].v) := by
  refine ⟨?_, h.below.setCell (Nat.le_refl _) _⟩
  have h1 := (World.ownsRow.stored h.own p L[p].v).1
  have e : ((leftL s L p).map RowB.v ++ List.replicate (n - p) (Value.slice none 0 0)).set p L[p].v = (leftL s L (p + 1)).map RowB.v ++ List.replicate (n - (p + 1)) (Value.slice none 0 0) := by
    have hll := leftL_length s L p
    rw [leftL_snoc s L p hl, List.set_append_right _ _ (by simp [hll]), show n - p = (n - (p + 1)) + 1 from by omega, List.replicate_succ]
    unfold rowL
    rw [if_neg (by rw [hs]; decide)]
    simp [hll]
  rw [e] at h1
  exact h1
set_option maxHeartbeats 1000000 in
theorem locLeft (L : List RowB) (B : Nat) (A : Option Addr) (n c : Nat) (b N : Nat) (s : List Nat) (w : World) (h1 : Rd w B A (L.map RowB.v)) (hl : L.length = n) (hB : B ≤ w.heap.size) (hn : n ≤ 1000000) (hS : SetIs w b N s) :
    Calls Try.prog 55 #[.slice A n c, .map (some b)] w fun e w' => e = .returned (.slice (some ⟨w.heap.size, 0, none⟩) n n) ∧ w'.ownsRow w.heap.size 22 1 (.slice (some ⟨w.heap.size, 0, none⟩) n n) n ((leftL s L n).map RowB.v) ∧ Below w.heap.size w w' := by
  have HR := Lib.hid h1
  have HL := Lib.hid hl
  have HS := Lib.hid hS
  have hmk := makeR n n (Nat.le_refl _) (by omega)
  clear h1 hl hS
  go_enter Try.func55, Try.ntmps55
  go_wp2
  go_loopw [6, 7, 13] (fun _ _ i wr => ∃ p : Nat, i = .int .i64 p ∧ p ≤ n ∧ Hid (LfI w n s L p wr)) (fun _ _ i _ => n - (intOf i).toNat)
  case atStart =>
    refine ⟨0, rfl, Nat.zero_le _, Lib.hid ⟨?_, (Below.refl _ _).alloc (Nat.le_refl _) _⟩⟩
    have h5 := own_made w w.heap.size 22 (.slice none 0 0) n n (Nat.le_refl _) (Nat.le_refl _) (by unfold maxLen; omega)
    simpa [leftL] using h5
  case round =>
    clear hmk
    obtain ⟨p, rfl, hp, HI⟩ := hrel
    by_cases hlt : p < n
    · have hpl : p < L.length := by rw [HL.out]; exact hlt
      obtain ⟨ad, rfl, hab, hcell⟩ := (HR.out.below (HI.out.below.mono hB)).row hpl
      have hlk := (HS.out.below HI.out.below).look p (by omega)
      obtain ⟨⟨vq, hcq⟩, hfq⟩ := HI.out.cells hlt
      have HSK := Lib.hid fun hs => HI.out.skip hlt hpl hs
      have HPU := Lib.hid fun hs => HI.out.push hlt hpl hs
      obtain ⟨x, hx⟩ : ∃ x, s.contains p = x := ⟨_, rfl⟩
      rw [hx] at hlk HSK HPU
      generalize L[p] = r at *
      obtain ⟨rA, rn, rc, rbs⟩ := r
      unfold RowB.v at HPU
      simp only at hcell HPU
      clear hx hpl HI
      cases x
      · have HI2 := Lib.hid (HPU.out (by trivial))
        go_wp2
        go_roundw
        case rel => exact ⟨p + 1, by go_num, hlt, HI2⟩
        case measure => simp [intOf]; omega
      · have HI2 := Lib.hid (HSK.out (by trivial))
        go_wp2
        go_roundw
        case rel => exact ⟨p + 1, by go_num, hlt, HI2⟩
        case measure => simp [intOf]; omega
    · obtain rfl : p = n := by omega
      have ho := HI.out.own
      rw [Nat.sub_self, List.replicate_zero, List.append_nil] at ho
      have HO := Lib.hid ho
      clear ho
      go_wp2
      go_ret
      exact ⟨rfl, HO.out, HI.out.below⟩
set_option maxHeartbeats 1000000 in
theorem locEven {w : World} {g gf k m c : Nat} {A : Option Addr} (h : Cdr w g gf k m A c) (L : List RowB) (B : Nat) (Al : Option Addr) (n cl : Nat) (h1 : Rd w B Al (L.map RowB.v)) (hl : L.length = n) (hB : B ≤ w.heap.size) (hn : n = k + m) (W : Nat) (hW : ∀ r ∈ L, r.n = W) :
    Calls Try.prog 44 #[.pointer (some ⟨g, 0, none⟩), .slice Al n cl] w fun e w' => e = .returned (.bool true) ∧ Below w.heap.size w w' := by
  have hs := h.hs
  have hn255 : n ≤ 255 := by omega
  have hnk : (n : Int) = (k : Int) + (m : Int) := by omega
  have HN : Hid (∀ V, Below w.heap.size w V → Calls Try.prog 23 #[.pointer (some ⟨g, 0, none⟩)] V fun e w' => e = .returned (.int .i64 (n : Int)) ∧ w' = V.drew) := Lib.hid fun V hV => by rw [hnk]; exact cdN (h.below hV)
  have HR := Lib.hid h1
  have HL := Lib.hid hl
  have HW := Lib.hid hW
  have hn1 : 0 < n := by have := h.hk; omega
  clear h h1 hl hnk hn hW
  have h0L : 0 < L.length := by rw [HL.out]; exact hn1
  obtain ⟨ad, rfl, hab0, hcell0⟩ := HR.out.row h0L
  have hW0 := HW.out _ (List.getElem_mem h0L)
  rw [addr_add_zero, hW0] at hcell0
  generalize L[0].A = a0 at hcell0
  generalize L[0].c = c0 at hcell0
  clear hab0 hW0 h0L
  have HD := Lib.hid (below_drewN (Below.refl w.heap.size w) 1)
  go_enter Try.func44, Try.ntmps44
  go_wp2
  go_loopw [6, 9] (fun _ i wr => ∃ p : Nat, i = .int .i64 p ∧ p ≤ n ∧ wr = w) (fun _ i _ => n - (intOf i).toNat)
  case atStart => exact ⟨0, rfl, Nat.zero_le _, rfl⟩
  case round =>
    obtain ⟨p, rfl, hp, hww⟩ := hrel
    replace hww := hww.symm
    subst hww
    by_cases hlt : p < n
    · have hpl : p < L.length := by rw [HL.out]; exact hlt
      obtain ⟨ad', e', hab, hcell⟩ := HR.out.row hpl
      injection e' with e'
      subst e'
      rw [HW.out _ (List.getElem_mem hpl)] at hcell
      generalize L[p].A = a1 at hcell
      generalize L[p].c = c1 at hcell
      clear hpl hab
      go_wp2
      go_roundw
      case rel => exact ⟨p + 1, by go_num, hlt, by first | rfl | trivial⟩
      case measure => simp [intOf]; omega
    · obtain rfl : n = p := by omega
      go_wp2_with fail
      refine (HN.out _ (Below.refl _ _)).mono ?_
      rintro e w2 ⟨rfl, rfl⟩
      go_wp2
      go_ret
      exact ⟨rfl, HD.out⟩
/-- May it be looked for? Where the rows are as they should be. -/
theorem locMay {w : World} {g gf k m c : Nat} {A : Option Addr} (h : Cdr w g gf k m A c) (L : List RowB) (B : Nat) (Al : Option Addr) (n cl : Nat) (h1 : Rd w B Al (L.map RowB.v)) (hl : L.length = n) (hB : B ≤ w.heap.size) (hn : n = k + m) (W : Nat) (hW : ∀ r ∈ L, r.n = W) (most : Nat) (h16 : k + m ≤ 16) (h2 : most ≤ 2) (hm2 : 2 * most ≤ m) :
    Calls Try.prog 24 #[.pointer (some ⟨g, 0, none⟩), .slice Al n cl, .int .i64 (most : Int)] w fun e w' => e = .returned (.bool true) ∧ Below w.heap.size w w' := by
  have HN := Lib.hid (cdN h)
  have HM : Hid (Calls Try.prog 43 #[.pointer (some ⟨g, 0, none⟩)] w.drew fun e w' => e = .returned (.int .i64 (m : Int)) ∧ w' = w.drew) := Lib.hid (cdM (h.drewN 1))
  have HE : Hid (Calls Try.prog 44 #[.pointer (some ⟨g, 0, none⟩), .slice Al n cl] w.drew fun e w' => e = .returned (.bool true) ∧ Below w.drew.heap.size w.drew w') := Lib.hid (locEven (h.drewN 1) L B Al n cl (h1.drewN 1) hl hB hn W hW)
  have HD := Lib.hid (below_drewN (Below.refl w.heap.size w) 1)
  have hkm : (k : Int) + (m : Int) ≤ 16 := by omega
  have hmm : 2 * (most : Int) ≤ (m : Int) := by omega
  have hw1 : IntKind.i64.wrap (2 * (most : Int)) = 2 * (most : Int) := by rw [IntKind.wrap_i64] <;> omega
  clear h h1 hl hn hW hB
  go_enter Try.func24, Try.ntmps24
  go_wp2_with (first | (go_at_call 23; refine HN.out.mono ?_; rintro e w2 ⟨rfl, rfl⟩) | (go_at_call 43; refine HM.out.mono ?_; rintro e w3 ⟨rfl, rfl⟩) | (go_at_call 44; refine HE.out.mono ?_; rintro e w4 ⟨rfl, hb4⟩))
  go_ret
  exact ⟨rfl, HD.out.via hb4⟩
/-- Where it may not. -/
theorem locMayNo {w : World} {g gf k m c : Nat} {A : Option Addr} (h : Cdr w g gf k m A c) (Al : Option Addr) (n cl : Nat) (most : Nat) (hmo : most ≤ 1000) (hno : 16 < k + m ∨ 2 < most ∨ m < 2 * most) :
    Calls Try.prog 24 #[.pointer (some ⟨g, 0, none⟩), .slice Al n cl, .int .i64 (most : Int)] w fun e w' => e = .returned (.bool false) ∧ Below w.heap.size w w' := by
  have HN := Lib.hid (cdN h)
  have HM : Hid (Calls Try.prog 43 #[.pointer (some ⟨g, 0, none⟩)] w.drew fun e w' => e = .returned (.int .i64 (m : Int)) ∧ w' = w.drew) := Lib.hid (cdM (h.drewN 1))
  have HD := Lib.hid (below_drewN (Below.refl w.heap.size w) 1)
  have hw1 : IntKind.i64.wrap (2 * (most : Int)) = 2 * (most : Int) := by rw [IntKind.wrap_i64] <;> omega
  clear h
  by_cases c1 : 16 < k + m
  · have hd : decide ((k : Int) + (m : Int) ≤ 16) = false := by simp; omega
    clear hno HM
    go_enter Try.func24, Try.ntmps24
    go_wp2_with (go_at_call 23; refine HN.out.mono ?_; rintro e w2 ⟨rfl, rfl⟩)
    go_ret
    exact ⟨rfl, HD.out⟩
  · have hkm : (k : Int) + (m : Int) ≤ 16 := by omega
    by_cases c2 : 2 < most
    · have hd : decide ((most : Int) ≤ 2) = false := by simp; omega
      clear hno HM
      go_enter Try.func24, Try.ntmps24
      go_wp2_with (go_at_call 23; refine HN.out.mono ?_; rintro e w2 ⟨rfl, rfl⟩)
      go_ret
      exact ⟨rfl, HD.out⟩
    · have hmo2 : most ≤ 2 := by omega
      have hd : decide (2 * (most : Int) ≤ (m : Int)) = false := by simp; omega
      have hd2 : ¬ 2 * (most : Int) ≤ (m : Int) := by omega
      clear hno
      go_enter Try.func24, Try.ntmps24
      go_wp2_with (first | (go_at_call 23; refine HN.out.mono ?_; rintro e w2 ⟨rfl, rfl⟩) | (go_at_call 43; refine HM.out.mono ?_; rintro e w3 ⟨rfl, rfl⟩))
      go_ret
      exact ⟨rfl, HD.out⟩
end Cib
