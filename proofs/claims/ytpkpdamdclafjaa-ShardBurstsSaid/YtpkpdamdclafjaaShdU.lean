/- A shard is got of a sector of 64 bytes: contracts. -/
import Derived.Test.YtpkpdamdclafjaaShdT
set_option linter.unusedVariables false
set_option linter.unusedSimpArgs false
set_option maxRecDepth 20000
namespace Cib
open Go Go.RowKit Go.Proofs

/-- Cells from a place on replaced. -/
def setTo (cs : Array Value) (o : Nat) : List Value → Array Value
  | [] => cs
  | v :: r => setTo (cs.setIfInBounds o v) (o + 1) r
theorem Blk.setTo {g : Nat} {t : TypeId} : ∀ {vs : List Value} {o : Nat} {w : World} {cs : Array Value}, Blk w g t cs → Blk (w.setCells g o vs) g t (setTo cs o vs)
  | [], _, _, _, h => h
  | v :: r, o, w, cs, h => Blk.setTo (vs := r) (h.set o v)
theorem Blk.setCellsFar {g g' : Nat} {t : TypeId} (hg : g ≠ g') : ∀ {vs : List Value} {o : Nat} {w : World} {cs : Array Value}, Blk w g t cs → Blk (w.setCells g' o vs) g t cs
  | [], _, _, _, h => h
  | v :: r, o, w, cs, h => Blk.setCellsFar hg (vs := r) (h.far (p := ⟨g', o, none⟩) hg v)
theorem below_setCells {B g : Nat} {a : World} (hg : B ≤ g) : ∀ {vs : List Value} {o : Nat} {w : World}, Below B a w → Below B a (w.setCells g o vs)
  | [], _, _, h => h
  | v :: r, o, w, h => below_setCells hg (vs := r) (h.setCell (p := ⟨g, o, none⟩) hg v)
theorem setTo_get : ∀ (vs : List Value) (o : Nat) (cs : Array Value) (j : Nat), o + vs.length ≤ cs.size → (setTo cs o vs)[j]? = if o ≤ j ∧ j < o + vs.length then vs[j - o]? else cs[j]?
  | [], o, cs, j, h => by
    rw [if_neg (by simp)]
    rfl
  | v :: r, o, cs, j, h => by
    rw [List.length_cons] at h
    rw [setTo, setTo_get r (o + 1) _ j (by simp; omega)]
    by_cases hj : o + 1 ≤ j ∧ j < o + 1 + r.length
    · rw [if_pos hj, if_pos (by rw [List.length_cons]; omega), show j - o = (j - (o + 1)) + 1 from by omega, List.getElem?_cons_succ]
    · rw [if_neg hj, Array.getElem?_setIfInBounds]
      by_cases hjo : o = j
      · subst hjo
        rw [if_pos rfl, if_pos (by omega), if_pos (by rw [List.length_cons]; omega), Nat.sub_self]
        rfl
      · rw [if_neg hjo, if_neg (by rw [List.length_cons]; omega)]
/-- A struct's cells, the numbers put in one by one. -/
theorem shC_nums (a b c d e : Nat) : (((shC ⟨a, b, 0, 0, 0, List.replicate 44 0⟩).setIfInBounds 2 (.int .u16 (c : Int))).setIfInBounds 3 (.int .u64 (d : Int))).setIfInBounds 4 (.int .u16 (e : Int)) = shC ⟨a, b, c, d, e, List.replicate 44 0⟩ := by kernel_rfl
theorem shC_body (a b c d e : Nat) (body : List UInt8) (h : body.length = 44) : setTo (shC ⟨a, b, c, d, e, List.replicate 44 0⟩) 5 (body.map bv) = shC ⟨a, b, c, d, e, body⟩ := by
  apply Array.ext_getElem?
  intro j
  rw [setTo_get _ _ _ _ (by simp [shC, h])]
  by_cases hj : 5 ≤ j ∧ j < 5 + (body.map bv).length
  · rw [if_pos hj]
    unfold shC
    rw [List.getElem?_toArray, List.getElem?_append_right (by simp; omega)]
    rfl
  · rw [if_neg hj]
    rw [List.length_map, h] at hj
    unfold shC
    rw [List.getElem?_toArray, List.getElem?_toArray]
    by_cases h5 : j < 5
    · rw [List.getElem?_append_left (by simpa using h5), List.getElem?_append_left (by simpa using h5)]
    · rw [List.getElem?_eq_none (by simp; omega), List.getElem?_eq_none (by simp [h]; omega)]

theorem shdTakeG {A : Option Addr} {cap : Nat} {b : List UInt8} {g1 g2 k wd B : Nat} {w0 : World} (h : Rd w0 B A (b.map bv)) (hl : b.length = 64) (hcap : 64 ≤ cap) (hcm : cap ≤ maxLen) (hB : B ≤ w0.heap.size)
    (h12 : g1 ≠ g2) (hg2 : w0.heap.size ≤ g2) (hk : k + wd ≤ 64) (h1 : 1 ≤ wd) (h8 : wd ≤ 8) (W : World) (hb : Below w0.heap.size w0 W)
    (b1 : Blk W g1 28 #[.slice A 64 cap]) (b2 : Blk W g2 3 #[.int .i64 (k : Int)]) :
    Calls Try.prog 29 #[.int .i64 (wd : Int), .pointer (some ⟨g1, 0, none⟩), .pointer (some ⟨g2, 0, none⟩)] W fun e w' => e = .returned (.int .u64 (Shd.at_ b k wd : Int)) ∧ Below w0.heap.size w0 w' ∧
      Blk w' g1 28 #[.slice A 64 cap] ∧ Blk w' g2 3 #[.int .i64 ((k + wd : Nat) : Int)] ∧ (∀ g t cs, g ≠ g2 → Blk W g t cs → Blk w' g t cs) ∧ w'.heap.size = W.heap.size := by
  refine (shdTake A cap b g1 g2 k wd W B (h.below (hb.mono hB)) hl hcap hcm (by omega) h8 b1 b2).mono ?_
  rintro e w' ⟨rfl, rfl⟩
  rw [getP_at h1 h8 (by omega)]
  exact ⟨rfl, below_setRow hb hg2 _, b1.rowFar h12 _, b2.row _, fun g t cs hg hc => hc.rowFar hg _, size_setRow _ _ _⟩
theorem shdTaker2 (A : Option Addr) (len cap : Nat) (w : World) :
    Calls Try.prog 23 #[.slice A len cap] w fun e w' => ∃ g1 g2, e = .returned (.func (.func 29) #[] #[.pointer (some ⟨g1, 0, none⟩), .pointer (some ⟨g2, 0, none⟩)]) ∧
      g1 ≠ g2 ∧ w.heap.size ≤ g1 ∧ w.heap.size ≤ g2 ∧ Blk w' g1 28 #[.slice A len cap] ∧ Blk w' g2 3 #[.int .i64 ((0 : Nat) : Int)] ∧ Below w.heap.size w w' ∧ g1 < w'.heap.size ∧ g2 < w'.heap.size := by
  refine (shdTaker A len cap w).mono ?_
  rintro e w' ⟨rfl, rfl⟩
  exact ⟨_, _, rfl, by omega, Nat.le_refl _, by omega, (Blk.new _ _ _).alloc _, by simpa using Blk.new (w.alloc (.cells #[.slice A len cap] 28)) 3 #[.int .i64 0], ((Below.refl _ _).alloc (Nat.le_refl _) _).alloc (by simp) _, by simp; omega, by simp⟩

theorem shdGetSum (A : Option Addr) (cap : Nat) (b : List UInt8) (w : World) (B : Nat) (h : Rd w B A (b.map bv)) (hl : b.length = 64) (hcap : 64 ≤ cap) (hcm : cap ≤ maxLen) (hB : B ≤ w.heap.size) (hs : Shd.at_ b 60 4 ≠ (Crc.more 0#32 (b.take 60)).toNat) :
    Calls Try.prog 9 #[.slice A 64 cap] w (GetOut b w) := by
  have HV : Hid (Shd.getS b = (Shd.nul, 4)) := by (show _ = _; unfold Shd.getS; rw [if_neg (by omega), if_pos hs])
  have hg := fun W (hw : Below w.heap.size w W) => Go.Proofs.Ytpkpdamdclafjaa.numGet A cap b 60 4 W B (h.below (hw.mono hB)) hl hcap hcm (by decide) (by decide)
  have hge : Go.Proofs.Ytpkpdamdclafjaa.getP b 60 4 = (Shd.at_ b 60 4, 0) := getP_at (i := 60) (wd := 4) (by decide) (by decide) (by omega)
  unfold Go.Proofs.Ytpkpdamdclafjaa.getV at hg
  rw [hge] at hg
  simp only at hg
  have ht : Rd w B A ((b.take 60).map bv) := by rw [List.map_take]; exact h.take 60
  have hc := fun W (hw : Below w.heap.size w W) => Go.Proofs.Ytpkpdamdclafjaa.crcSum A cap (b.take 60) W B (ht.below (hw.mono hB)) (by rw [List.length_take]; unfold maxLen; omega) (len := 60) (by rw [List.length_take]; omega)
  have hn := Shd.at_lt b 60 4
  have hq := Shd.sum_lt (b.take 60)
  generalize Shd.at_ b 60 4 = n at *
  generalize (Crc.more 0#32 (b.take 60)).toNat = q at *
  have hne : ((n : Int) != (q : Int)) = true := by rw [bne_iff_ne]; omega
  have hn' : (n : Int) ≤ 4294967295 := by omega
  have HG := Lib.hid hg
  have HC := Lib.hid hc
  have hsl := fun W : World => run_cut_to (P := Try.prog) 28 5 Try.underlying28 sizeByte A 64 cap 60 .i64 (by omega) W
  have HO := Lib.hid (shC_one Shd.nul)
  have HS := Lib.hid (shCsize Shd.nul Shd.nul_ok)
  have HZ := Lib.hid shdZero
  have HB := Lib.hid shdBuilt
  unfold GetOut
  rw [HV.out]
  simp only
  clear hs hg hc hge HV hn hq
  generalize shC Shd.nul = Z at *
  go_enter Try.func9, Try.ntmps9
  go_wp2_with (first | (refine wpList_allocAs rfl 26 rfl Z HZ.out ?_) | (refine wpList_buildAs rfl 26 _ rfl Z HB.out (by simp) ?_) | (refine wpList_store_row rfl 26 _ _ rfl w.heap.size Z rfl rfl 26 Z (Blk.new _ _ _) (by rw [HS.out]; exact shdInfo) rfl HO.out ?_) | (go_at_call 22; refine (HG.out _ ((Below.refl _ _).alloc (Nat.le_refl _) _)).mono ?_; rintro e w' ⟨rfl, rfl⟩) | (go_at_call 21; refine (HC.out _ ((Below.refl _ _).alloc (Nat.le_refl _) _)).mono ?_; rintro e w' ⟨rfl, rfl⟩))
  refine bodyPost_ret (results_cell_row2 (g := w.heap.size) (te := 26) (cs := Z) (fr := (0, 0)) rfl _ _ _ rfl ((Blk.new _ _ _).row Z) Try.underlying26 rfl (by rw [HS.out]; exact shdInfo)) rfl ⟨rfl, below_setRow ((Below.refl _ _).alloc (Nat.le_refl _) _) (Nat.le_refl _) Z⟩
end Cib
