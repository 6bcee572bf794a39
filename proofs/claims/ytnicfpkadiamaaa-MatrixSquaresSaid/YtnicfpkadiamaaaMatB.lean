/- A matrix at work in memory: begun. -/
import Derived.Test.YtnicfpkadiamaaaMatZ
import Derived.Test.YtnicfpkadiamaaaZeros
set_option linter.unusedVariables false
set_option linter.unusedSimpArgs false
set_option maxRecDepth 40000
namespace Cib
open Go Go.RowKit Go.Proofs
/-- begun under way. -/
structure BgI (w : World) (g W i : Nat) (F : List (List UInt8)) (M : Array Value) (A : Option Addr) (c' : Nat) (L : List RowB) (wr : World) : Prop where
  own : wr.ownsRow w.heap.size 22 1 (.slice A i c') i (L.map RowB.v)
  rows : ∀ r ∈ L, wr.ownsRow w.heap.size 5 1 (.slice r.A r.n r.c) r.n (r.bs.map bv)
  wid : ∀ r ∈ L, r.n = W
  box : Blk wr (w.heap.size + 1) 75 #[.pointer (some ⟨g, 0, none⟩), .slice A i c']
  mat : Blk wr w.heap.size 24 M
  bs : bsL L = F.take i
  below : Below w.heap.size w wr
section
variable {w wr w2 w4 : World} {g W i : Nat} {F : List (List UInt8)} {M : Array Value} {A : Option Addr} {c' : Nat} {L : List RowB}
theorem BgI.push (h : BgI w g W i F M A c' L wr) (hi : i < F.length) {A3 : Option Addr} {n3 c3 : Nat} {row : List UInt8} (hb2 : Below wr.heap.size wr w2) (ho : w2.ownsRow wr.heap.size 5 1 (.slice A3 n3 c3) n3 (row.map bv)) (hn : n3 = W) (hrow : F[i] = row)
    {A4 : Option Addr} {c4 : Nat} (ho4 : w4.ownsRow w.heap.size 22 1 (.slice A4 (i + 1) c4) (i + 1) (L.map RowB.v ++ [.slice A3 n3 c3])) (hg4 : (w2.alloc (.cells #[.slice A3 n3 c3] 22)).grownBy w4 (Value.slice A i c').ownBlock) :
    BgI w g W (i + 1) F M A4 c4 (L ++ [⟨A3, n3, c3, row⟩]) (w4.setCell ⟨w.heap.size + 1, 0 + 1, none⟩ (.slice A4 (i + 1) c4)) := by
  have hal : Below w2.heap.size w2 (w2.alloc (.cells #[.slice A3 n3 c3] 22)) := (Below.refl _ _).alloc (Nat.le_refl _) _
  have hob := own_belowS (own_belowS h.own hb2) hal
  have hs : Same [22] (w2.alloc (.cells #[.slice A3 n3 c3] 22)) w4 := Same.grown hob hg4 (by decide)
  have hbel : Below w.heap.size w w4 := (((h.below.trans (hb2.mono h.below.size)).trans (hal.mono (Nat.le_trans h.below.size hb2.size))).grown hg4 (by have := h.below.size; have := hb2.size; simp; omega) fun k hk => (hob.lt k hk).1)
  have hbox := ((h.box.below hb2 h.box.lt).below hal (Nat.lt_of_lt_of_le h.box.lt hb2.size)).same hs (by decide)
  have hmat := ((h.mat.below hb2 h.mat.lt).below hal (Nat.lt_of_lt_of_le h.mat.lt hb2.size)).same hs (by decide)
  have hne : ∀ {e : TypeId} {b : Nat} {v : Value} {n : Nat} {xs : List Value}, w4.ownsRow b e 1 v n xs → e ≠ 75 → v.ownBlock ≠ some (w.heap.size + 1) := fun h1 h2 he =>
    h2 (Ty.one (own_blockV h1 he).1 hbox.ty)
  refine ⟨?_, fun r hr => ?_, fun r hr => ?_, hbox.set 1 _, hmat.far (p := ⟨w.heap.size + 1, 0 + 1, none⟩) (by show w.heap.size ≠ w.heap.size + 1; omega) _, ?_, hbel.setCell (p := ⟨w.heap.size + 1, 0 + 1, none⟩) (by show _ ≤ w.heap.size + 1; omega) _⟩
  · rw [List.map_append]
    exact ownsRow_setCell_other ho4 (hne ho4 (by decide)) _
  · rcases List.mem_append.1 hr with hr | hr
    · have h1 := own_same (own_belowS (own_belowS (h.rows r hr) hb2) hal) hs (by decide)
      exact ownsRow_setCell_other h1 (hne h1 (by decide)) _
    · rw [List.mem_singleton] at hr
      subst hr
      have h1 := own_lowerS (own_same (own_belowS ho hal) hs (by decide)) h.below.size
      exact ownsRow_setCell_other h1 (hne h1 (by decide)) _
  · rcases List.mem_append.1 hr with hr | hr
    · exact h.wid r hr
    · rw [List.mem_singleton] at hr
      subst hr
      exact hn
  · rw [List.take_succ_eq_append_getElem hi, hrow, ← h.bs]
    simp [bsL]
theorem BgI.kept (h : BgI w g W i F M A c' L wr) {A3 : Option Addr} {n3 c3 : Nat} (hb2 : Below wr.heap.size wr w2) (hg4 : (w2.alloc (.cells #[.slice A3 n3 c3] 22)).grownBy w4 (Value.slice A i c').ownBlock) :
    Blk w4 (w.heap.size + 1) 75 #[.pointer (some ⟨g, 0, none⟩), .slice A i c'] := by
  have hal : Below w2.heap.size w2 (w2.alloc (.cells #[.slice A3 n3 c3] 22)) := (Below.refl _ _).alloc (Nat.le_refl _) _
  have hs : Same [22] (w2.alloc (.cells #[.slice A3 n3 c3] 22)) w4 := Same.grown (own_belowS (own_belowS h.own hb2) hal) hg4 (by decide)
  exact ((h.box.below hb2 h.box.lt).below hal (Nat.lt_of_lt_of_le h.box.lt hb2.size)).same hs (by decide)
end
theorem cut_row {w : World} {B : Nat} {A : Option Addr} {bs : List UInt8} (hr : Rd w B A (bs.map bv)) {r c i : Nat} (hl : bs.length = r * c) (hi : i < r) : Rd w B (cut A ((i + 1) * c) (i * c)) ((Lin.rowOf c bs i).map bv) := by
  have hle : (i + 1) * c ≤ r * c := Nat.mul_le_mul_right c hi
  have h0 : i * c ≤ (i + 1) * c := Nat.mul_le_mul_right c (Nat.le_succ i)
  have h1 : Rd w B A ((bs.take ((i + 1) * c)).map bv) := by
    rw [List.map_take]
    exact hr.take _
  have h2 := h1.cut (c := (i + 1) * c) (k := i * c) (by simp; omega) (by simp; omega)
  have e : (Lin.rowOf c bs i).map bv = ((bs.take ((i + 1) * c)).map bv).drop (i * c) := by
    rw [← List.map_drop, List.drop_take]
    unfold Lin.rowOf
    rw [Nat.succ_mul, Nat.add_sub_cancel_left]
  rw [e]
  exact h2
/-- A row with noughts put behind it, one of them made 1. -/
theorem zeros_set {w1 w2 w5 : World} {A5 : Option Addr} {c r c5 p : Nat} {row : List UInt8} (ho : w5.ownsRow w1.heap.size 5 1 (.slice A5 (c + r) c5) (c + r) (row.map bv ++ List.replicate r (.int .u8 0))) (hb : Below w1.heap.size w2 w5) (hb2 : Below w1.heap.size w1 w2) (hl : row.length = c) (hp : p < r) :
    ∃ g5, A5 = some ⟨g5, 0, none⟩ ∧ w1.heap.size ≤ g5 ∧ w5.cell? ⟨g5, c + p, none⟩ = some (.int .u8 0) ∧ w5.frozen? ⟨g5, c + p, none⟩ = false ∧ Hid (Below w1.heap.size w1 (w5.setCell ⟨g5, c + p, none⟩ (.int .u8 1))) ∧ Hid ((w5.setCell ⟨g5, c + p, none⟩ (.int .u8 1)).ownsRow w1.heap.size 5 1 (.slice (some ⟨g5, 0, none⟩) (c + r) c5) (c + r) ((row ++ Lin.unitRow p r).map bv)) := by
  have ho5 : w5.ownsRow w1.heap.size 5 1 (.slice A5 (c + r) c5) (c + r) ((row ++ List.replicate r 0).map bv) := by
    rw [List.map_append, List.map_replicate]
    exact ho
  obtain ⟨g5, rfl, hg5⟩ := own_at ho5 (by omega)
  obtain ⟨hc5, hf5, hs5⟩ := own_byte ho5 (j := c + p) (by rw [List.length_append, hl, List.length_replicate]; omega)
  have hs5' := hs5 1 0
  have hset : (row ++ List.replicate r 0).set (c + p) 1 = row ++ Lin.unitRow p r := by
    rw [List.set_append_right _ _ (by omega), hl, Nat.add_sub_cancel_left]
    rfl
  rw [hset] at hs5'
  refine ⟨g5, rfl, hg5, ?_, hf5, Lib.hid ((hb2.trans hb).setCell (p := ⟨g5, c + p, none⟩) hg5 _), Lib.hid hs5'⟩
  rw [hc5, List.getElem_append_right (by omega)]
  simp
/-- What begun answers. -/
def BegR (w : World) (g r c : Nat) (bs : List UInt8) (both : Bool) (e : Ending) (w' : World) : Prop :=
  ∃ gw gr cc L, e = .returned (.pointer (some ⟨gw, 0, none⟩)) ∧ WkI w g gw gr r (c + if both then r else 0) cc L w' ∧ bsL L = Lin.begunL r c bs both ∧ Below w.heap.size w w'
set_option maxHeartbeats 4000000 in
theorem matBegunF (g r c : Nat) (A : Option Addr) (n k : Nat) (bs : List UInt8) (w : World) (hf : Full w g) (hr : Rd w w.heap.size A (bs.map bv)) (hbs : bs.length = r * c) (hn : n = r * c) (hnk : n ≤ k) (hr1 : 1 ≤ r) (hr2 : r ≤ 255) (hc2 : c ≤ 255) :
    Calls Try.prog 30 #[.pointer (some ⟨g, 0, none⟩), .agg (mv r c A n k), .bool false] w (BegR w g r c bs false) := by
  have HF := Lib.hid hf
  have HRD := Lib.hid hr
  have HBS := Lib.hid hbs
  have HGL := Lib.hid hf.lt
  have hnk2 : r * c ≤ k := by omega
  have HROW := Lib.hid fun i (hi : i < r) W => matRow A n k c i hc2 (by rw [hn]; exact Nat.mul_le_mul_right c hi) (by omega) hnk W
  have H0 : Hid (BgI w g c 0 (Lin.begunL r c bs false) (mv r c A n k) none 0 [] (((w.alloc (.cells (mv r c A n k) 24)).alloc (.cells #[.pointer (some ⟨g, 0, none⟩), .slice none 0 0] 75)))) := by
    refine Lib.hid ⟨World.ownsRow_nil _ _ _ _, fun x hx => (by cases hx), fun x hx => (by cases hx), ?_, (Blk.new w _ _).alloc _, rfl, ((Below.refl _ _).alloc (Nat.le_refl _) _).alloc (by simp) _⟩
    have := Blk.new (w.alloc (.cells (mv r c A n k) 24)) 75 #[.pointer (some ⟨g, 0, none⟩), .slice none 0 0]
    simpa using this
  have HFL := Lib.hid (Lin.begunL_length r c bs false)
  have HFG := Lib.hid fun i (hi : i < (Lin.begunL r c bs false).length) => Lin.begunL_get (r := r) (c := c) (A := bs) (both := false) hi
  clear hf hr hbs hnk hn
  unfold mv at H0 ⊢
  go_enter Try.func30, Try.ntmps30
  go_wp2
  go_loopw [15] (fun i wr => ∃ (p : Nat) (A' : Option Addr) (c' : Nat) (L : List RowB), i = .int .i64 p ∧ p ≤ r ∧ Hid (BgI w g c p (Lin.begunL r c bs false) #[.int .i64 r, .int .i64 c, .slice A n k] A' c' L wr)) (fun i _ => r - (intOf i).toNat)
  case atStart => exact ⟨0, none, 0, [], rfl, Nat.zero_le _, H0⟩
  case round =>
    clear H0
    obtain ⟨p, A', c', L, rfl, hp, hI⟩ := hrel
    by_cases hlt : p < r
    · have m0 := hI.out.mat.cell 0
      have m1 := hI.out.mat.cell 1
      have m2 := hI.out.mat.cell 2
      have b1 := hI.out.box.cell 1
      simp only [List.getElem?_toArray, List.getElem?_cons_zero, List.getElem?_cons_succ] at m0 m1 m2 b1
      have HRW := Lib.hid (HROW.out p hlt wr)
      have HRR := Lib.hid (cut_row (HRD.out.below hI.out.below) HBS.out hlt)
      have hrl := Lin.rowOf_length HBS.out hlt
      have hFp : p < (Lin.begunL r c bs false).length := by rw [HFL.out]; exact hlt
      have hFP := HFG.out p hFp
      simp only [Bool.false_eq_true, if_false, if_true, List.append_nil] at hFP
      have HPU := Lib.hid fun A3 c3 w2 w4 A4 c4 hb2 ho ho4 hg4 => hI.out.push (w2 := w2) (w4 := w4) hFp (A3 := A3) (n3 := c) (c3 := c3) hb2 ho rfl hFP (A4 := A4) (c4 := c4) ho4 hg4
      have HKP := Lib.hid fun A3 c3 w2 w4 hb2 hg4 => hI.out.kept (w2 := w2) (w4 := w4) (A3 := A3) (n3 := c) (c3 := c3) hb2 hg4
      have hsz := hI.out.below.size
      have HOW := Lib.hid hI.out.own
      have hlm := hI.out.mat.lt
      have hlb := hI.out.box.lt
      have HRL := Lib.hid hrl
      clear hI hFP hFp hrl
      generalize Lin.rowOf c bs p = row at *
      generalize cut A ((p + 1) * c) (p * c) = Ar at *
      go_wp2_with fail
      refine HRW.out.mono ?_
      rintro e w1 ⟨rfl, rfl⟩
      go_wp2_with (first | (at_builtin; refine appB _ rfl (.const (.slice none 0 0)) (.tmp 23) rfl w1.heap.size none 0 0 [] rfl (World.ownsRow_nil _ _ _ _) _ Ar c c (row.map bv) rfl (by rw [List.length_map]; exact HRL.out) HRR.out one_bytes (by omega) (Nat.le_refl _) ?_; intro A3 c3 w2 ho2 hg2 hb2; rw [Nat.zero_add, List.nil_append] at ho2; rw [Nat.zero_add]; have HO2 := Lib.hid ho2; have HB2 := Lib.hid hb2; have hz2 := hb2.size; have m0 := (hb2.cell (p := ⟨w.heap.size, 0, none⟩) (by exact hlm)).trans m0; have m1 := (hb2.cell (p := ⟨w.heap.size, 1, none⟩) (by exact hlm)).trans m1; have b1 := (hb2.cell (p := ⟨w.heap.size + 1, 1, none⟩) (by exact hlb)).trans b1; clear ho2 hg2 hb2) | (at_builtin; go_loud (refine appR _ rfl (.tmp 40) (.tmp 42) rfl w.heap.size A' p c' (L.map RowB.v) rfl ((own_belowS HOW.out HB2.out).alloc _) _ (some ⟨w2.heap.size, 0, none⟩) 1 1 [.slice A3 c c3] rfl rfl (Rd.new w2 _ _ _ rfl) (one_rows (L := [⟨A3, c, c3, []⟩])) (by omega) (by have := HB2.out.size; simp at this ⊢; omega) ?_; intro A4 c4 w4 ho4 hg4 hb4; have hk4 := HKP.out _ _ _ _ HB2.out hg4; have b4 := hk4.cell 1; have f4 := hk4.frozen 1; simp only [List.getElem?_toArray, List.getElem?_cons_zero, List.getElem?_cons_succ] at b4; have HPP := Lib.hid (HPU.out _ _ _ w4 A4 c4 HB2.out HO2.out ho4 hg4); clear ho4 hg4 hb4 hk4)))
      go_roundw
      case rel => exact ⟨p + 1, A4, c4, _, by go_num, hlt, HPP⟩
      case measure => simp [intOf]; omega
    · obtain rfl : p = r := by omega
      clear hlt
      obtain ⟨gr, rfl, hge⟩ := own_at hI.out.own hr1
      go_wp2
      go_ret
      have hb := hI.out.below
      refine ⟨w.heap.size + 1, gr, c', L, rfl, ⟨HF.out.below hb HGL.out, hI.out.box, ⟨hI.out.own, hI.out.rows, hb⟩, hI.out.wid, HGL.out, by omega⟩, ?_, hb⟩
      rw [hI.out.bs, List.take_of_length_le (by rw [HFL.out]; exact Nat.le_refl _)]
set_option maxHeartbeats 4000000 in
theorem matBegunT (g r c : Nat) (A : Option Addr) (n k : Nat) (bs : List UInt8) (w : World) (hf : Full w g) (hr : Rd w w.heap.size A (bs.map bv)) (hbs : bs.length = r * c) (hn : n = r * c) (hnk : n ≤ k) (hr1 : 1 ≤ r) (hr2 : r ≤ 255) (hc2 : c ≤ 255) :
    Calls Try.prog 30 #[.pointer (some ⟨g, 0, none⟩), .agg (mv r c A n k), .bool true] w (BegR w g r c bs true) := by
  have HF := Lib.hid hf
  have HRD := Lib.hid hr
  have HBS := Lib.hid hbs
  have HGL := Lib.hid hf.lt
  have hnk2 : r * c ≤ k := by omega
  have HROW := Lib.hid fun i (hi : i < r) W => matRow A n k c i hc2 (by rw [hn]; exact Nat.mul_le_mul_right c hi) (by omega) hnk W
  have H0 : Hid (BgI w g (c + r) 0 (Lin.begunL r c bs true) (mv r c A n k) none 0 [] (((w.alloc (.cells (mv r c A n k) 24)).alloc (.cells #[.pointer (some ⟨g, 0, none⟩), .slice none 0 0] 75)))) := by
    refine Lib.hid ⟨World.ownsRow_nil _ _ _ _, fun x hx => (by cases hx), fun x hx => (by cases hx), ?_, (Blk.new w _ _).alloc _, rfl, ((Below.refl _ _).alloc (Nat.le_refl _) _).alloc (by simp) _⟩
    have := Blk.new (w.alloc (.cells (mv r c A n k) 24)) 75 #[.pointer (some ⟨g, 0, none⟩), .slice none 0 0]
    simpa using this
  have HFL := Lib.hid (Lin.begunL_length r c bs true)
  have HFG := Lib.hid fun i (hi : i < (Lin.begunL r c bs true).length) => Lin.begunL_get (r := r) (c := c) (A := bs) (both := true) hi
  clear hf hr hbs hnk hn
  unfold mv at H0 ⊢
  go_enter Try.func30, Try.ntmps30
  go_wp2
  go_loopw [15] (fun i wr => ∃ (p : Nat) (A' : Option Addr) (c' : Nat) (L : List RowB), i = .int .i64 p ∧ p ≤ r ∧ Hid (BgI w g (c + r) p (Lin.begunL r c bs true) #[.int .i64 r, .int .i64 c, .slice A n k] A' c' L wr)) (fun i _ => r - (intOf i).toNat)
  case atStart => exact ⟨0, none, 0, [], rfl, Nat.zero_le _, H0⟩
  case round =>
    clear H0
    obtain ⟨p, A', c', L, rfl, hp, hI⟩ := hrel
    by_cases hlt : p < r
    · have m0 := hI.out.mat.cell 0
      have m1 := hI.out.mat.cell 1
      have m2 := hI.out.mat.cell 2
      have b1 := hI.out.box.cell 1
      simp only [List.getElem?_toArray, List.getElem?_cons_zero, List.getElem?_cons_succ] at m0 m1 m2 b1
      have HRW := Lib.hid (HROW.out p hlt wr)
      have HRR := Lib.hid (cut_row (HRD.out.below hI.out.below) HBS.out hlt)
      have hrl := Lin.rowOf_length HBS.out hlt
      have hFp : p < (Lin.begunL r c bs true).length := by rw [HFL.out]; exact hlt
      have hFP := HFG.out p hFp
      simp only [Bool.false_eq_true, if_false, if_true, List.append_nil] at hFP
      have HPU := Lib.hid fun A3 c3 w2 w4 A4 c4 hb2 ho ho4 hg4 => hI.out.push (w2 := w2) (w4 := w4) hFp (A3 := A3) (n3 := (c + r)) (c3 := c3) hb2 ho rfl hFP (A4 := A4) (c4 := c4) ho4 hg4
      have HKP := Lib.hid fun A3 c3 w2 w4 hb2 hg4 => hI.out.kept (w2 := w2) (w4 := w4) (A3 := A3) (n3 := (c + r)) (c3 := c3) hb2 hg4
      have hsz := hI.out.below.size
      have HOW := Lib.hid hI.out.own
      have hlm := hI.out.mat.lt
      have hlb := hI.out.box.lt
      have HRL := Lib.hid hrl
      clear hI hFP hFp hrl
      generalize Lin.rowOf c bs p = row at *
      generalize cut A ((p + 1) * c) (p * c) = Ar at *
      go_wp2_with fail
      refine HRW.out.mono ?_
      rintro e w1 ⟨rfl, rfl⟩
      have hx1 : (0 : Int) ≤ (c : Int) + (p : Int) := by omega
      have hx2 : ((c : Int) + (p : Int)).toNat = c + p := by omega
      have hx3 : (c : Int) + (p : Int) < (c : Int) + (r : Int) := by omega
      have hx4 : IntKind.i64.wrap ((c : Int) + (p : Int)) = (c : Int) + (p : Int) := by rw [IntKind.wrap_i64]; omega
      go_wp2_with (first | (at_builtin; refine appB _ rfl (.const (.slice none 0 0)) (.tmp 23) rfl w1.heap.size none 0 0 [] rfl (World.ownsRow_nil _ _ _ _) _ Ar c c (row.map bv) rfl (by rw [List.length_map]; exact HRL.out) HRR.out one_bytes (by omega) (Nat.le_refl _) ?_; intro A3 c3 w2 ho2 hg2 hb2; rw [Nat.zero_add, List.nil_append] at ho2; rw [Nat.zero_add]; have HO2 := Lib.hid ho2; have HB2 := Lib.hid hb2; have hz2 := hb2.size; have m0 := (hb2.cell (p := ⟨w.heap.size, 0, none⟩) (by exact hlm)).trans m0; have m1 := (hb2.cell (p := ⟨w.heap.size, 1, none⟩) (by exact hlm)).trans m1; have b1 := (hb2.cell (p := ⟨w.heap.size + 1, 1, none⟩) (by exact hlb)).trans b1; clear ho2 hg2 hb2) | (at_builtin; go_loud (refine appZ _ rfl (.tmp 26) (.tmp 28) rfl w1.heap.size A3 c c3 (row.map bv) rfl HO2.out r rfl (by omega) (by omega) hz2 ?_; intro A5 c5 w5 ho5 hb5; obtain ⟨g5, hA5, hg5, hc5, hf5, HB5, HO5⟩ := zeros_set ho5 hb5 HB2.out HRL.out hlt; subst hA5; have m1 := (hb5.cell (p := ⟨w.heap.size, 1, none⟩) (by exact hlm)).trans m1; have b1 := (hb5.cell (p := ⟨w.heap.size + 1, 1, none⟩) (by exact hlb)).trans b1; have b2 := (World.cell?_setCell_other w5 ⟨g5, c + p, none⟩ ⟨w.heap.size + 1, 1, none⟩ (.int .u8 1) (fun e => by injection e with e1; omega)).trans b1; have hz5 := HB5.out.size; have HRN : Hid (Rd ((w5.setCell ⟨g5, c + p, none⟩ (.int .u8 1)).alloc (.cells #[.slice (some ⟨g5, 0, none⟩) (c + r) c5] 22)) (w5.heap.size + 1) (some ⟨w5.heap.size, 0, none⟩) [.slice (some ⟨g5, 0, none⟩) (c + r) c5]) := Lib.hid (by have := Rd.new (w5.setCell ⟨g5, c + p, none⟩ (.int .u8 1)) #[.slice (some ⟨g5, 0, none⟩) (c + r) c5] 22 (0, 0) (vs := [.slice (some ⟨g5, 0, none⟩) (c + r) c5]) rfl; simpa using this); clear ho5 hb5 HO2 HB2 m0 hz2)) | (at_builtin; go_loud (refine appR _ rfl (.tmp 40) (.tmp 42) rfl w.heap.size A' p c' (L.map RowB.v) rfl ((own_belowS HOW.out HB5.out).alloc _) _ (some ⟨w5.heap.size, 0, none⟩) 1 1 [.slice (some ⟨g5, 0, none⟩) (c + r) c5] rfl rfl HRN.out (one_rows (L := [⟨(some ⟨g5, 0, none⟩), (c + r), c5, []⟩])) (by omega) (by have := HB5.out.size; simp at this ⊢; omega) ?_; intro A4 c4 w4 ho4 hg4 hb4; have hk4 := HKP.out _ _ _ _ HB5.out hg4; have b4 := hk4.cell 1; have f4 := hk4.frozen 1; simp only [List.getElem?_toArray, List.getElem?_cons_zero, List.getElem?_cons_succ] at b4; have HPP := Lib.hid (HPU.out _ _ _ w4 A4 c4 HB5.out HO5.out ho4 hg4); clear ho4 hg4 hb4 hk4)))
      go_roundw
      case rel => exact ⟨p + 1, A4, c4, _, by go_num, hlt, HPP⟩
      case measure => simp [intOf]; omega
    · obtain rfl : p = r := by omega
      clear hlt
      obtain ⟨gr, rfl, hge⟩ := own_at hI.out.own hr1
      go_wp2
      go_ret
      have hb := hI.out.below
      refine ⟨w.heap.size + 1, gr, c', L, rfl, ⟨HF.out.below hb HGL.out, hI.out.box, ⟨hI.out.own, hI.out.rows, hb⟩, hI.out.wid, HGL.out, by omega⟩, ?_, hb⟩
      rw [hI.out.bs, List.take_of_length_le (by rw [HFL.out]; exact Nat.le_refl _)]
end Cib
