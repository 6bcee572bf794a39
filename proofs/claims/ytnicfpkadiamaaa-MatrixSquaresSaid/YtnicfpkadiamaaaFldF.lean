/- Making the field's tables. -/
import Derived.Test.YtnicfpkadiamaaaFldN
set_option linter.unusedVariables false
set_option linter.unusedSimpArgs false
set_option maxRecDepth 20000
namespace Cib
open Go Go.RowKit Go.Proofs

theorem xt_big {x : Nat} (h : x < 256) (hb : 256 ≤ 2 * x) : bits .xor .i64 ((2 * x : Nat) : Int) 285 = (Fld.xt x : Int) := by
  have h1 : (BitVec.ofInt 64 ((2 * x : Nat) : Int)).toNat = 2 * x := by
    rw [BitVec.ofInt_natCast, BitVec.toNat_ofNat]
    exact Nat.mod_eq_of_lt (by omega)
  have h2 : (BitVec.ofInt 64 285).toNat = 285 := by decide
  have h3 : 2 * x ^^^ 285 < 512 := Nat.xor_lt_two_pow (n := 9) (by omega) (by decide)
  show IntKind.i64.wrap ((BitVec.ofInt 64 ((2 * x : Nat) : Int) ^^^ BitVec.ofInt 64 285).toNat : Int) = _
  rw [BitVec.toNat_xor, h1, h2, IntKind.wrap_i64]
  unfold Fld.xt
  rw [if_pos hb]
  omega
theorem drewN_setRow (w : World) (n g : Nat) (cs : Array Value) : (w.drewN n).setRow g cs = (w.setRow g cs).drewN n := rfl
theorem setCell_row {w : World} {g : Nat} {t : TypeId} {cs : Array Value} (hb : Blk w g t cs) (ds : Array Value) (n i : Nat) (v : Value) :
    ((w.setRow g ds).drewN n).setCell ⟨g, i, none⟩ v = (w.setRow g (ds.setIfInBounds i v)).drewN n := by
  rw [setCell_eq_setRow _ g i ds t (0, 0) v ((hb.row ds).drewN n), drewN_setRow, setRow_setRow]
theorem fldFill (g d s : Nat) (w : World) (hb : Blk w g 67 (fcells d s 0)) :
    Calls Try.prog 53 #[.pointer (some ⟨g, 0, none⟩)] w fun e w' => e = .returned (.tuple #[]) ∧ ∃ n, w' = (w.setRow g (fcells d s 255)).drewN n := by
  go_enter Try.func53, Try.ntmps53
  go_wp2
  go_loopw [2, 3, 4] (fun x _ i wr => ∃ k : Nat, k ≤ 255 ∧ i = .int .i64 k ∧ x = .int .i64 (Fld.pw k : Nat) ∧ ∃ n, wr = (w.setRow g (fcells d s k)).drewN n) (fun _ _ i _ => 255 - (intOf i).toNat)
  case atStart => exact ⟨0, Nat.zero_le _, rfl, rfl, 0, by
    have : w.setRow g (fcells d s 0) = w := setRow_self w g _ _ _ hb
    rw [this]; rfl⟩
  case round =>
    obtain ⟨k, hk, rfl, rfl, n, rfl⟩ := hrel
    by_cases hlt : k < 255
    · have hB : Blk ((w.setRow g (fcells d s k)).drewN n) g 67 (fcells d s k) := (hb.row _).drewN n
      have hp := Fld.pw_lt k
      generalize hw1 : (w.setRow g (fcells d s k)).drewN n = w1 at hB ⊢
      have hc1 := (hB.cell (4 + k)).trans (fcells_exp (j := k) (by omega))
      have hc2 := (hB.cell (4 + (k + 255))).trans (fcells_exp (j := k + 255) (by omega))
      have hc3 := (hB.cell (514 + Fld.pw k)).trans (fcells_log hp)
      have hf1 := hB.frozen (4 + k)
      have hf2 := hB.frozen (4 + (k + 255))
      have hf3 := hB.frozen (514 + Fld.pw k)
      go_wp2
      have hcv : IntKind.u8.wrap (Fld.pw k : Int) = (Fld.pw k : Int) := by rw [IntKind.wrap_u8']; omega
      go_region
      have hw2 : ((w1.setCell ⟨g, 4 + k, none⟩ (.int .u8 (Fld.pw k : Nat))).setCell ⟨g, 4 + (k + 255), none⟩ (.int .u8 (Fld.pw k : Nat))).drew = (w.setRow g (((fcells d s k).setIfInBounds (4 + k) (.int .u8 (Fld.pw k : Nat))).setIfInBounds (4 + (k + 255)) (.int .u8 (Fld.pw k : Nat)))).drewN (n + 1) := by
        rw [← hw1, setCell_row hb, setCell_row hb]
        rfl
      have hB2 := ((hB.set (4 + k) (.int .u8 (Fld.pw k : Nat))).set (4 + (k + 255)) (.int .u8 (Fld.pw k : Nat))).drewN 1
      rw [hw2]
      clear hw2
      clear hcv hc1 hc2 hc3 hf1 hf2 hf3 hB2
      have hB3 : Blk ((w.setRow g (((fcells d s k).setIfInBounds (4 + k) (.int .u8 (Fld.pw k : Nat))).setIfInBounds (4 + (k + 255)) (.int .u8 (Fld.pw k : Nat)))).drewN (n + 1)) g 67 _ := (hb.row _).drewN (n + 1)
      have hn := setCell_row hb (((fcells d s k).setIfInBounds (4 + k) (.int .u8 (Fld.pw k : Nat))).setIfInBounds (4 + (k + 255)) (.int .u8 (Fld.pw k : Nat))) (n + 1) (514 + Fld.pw k) (.int .i64 (k : Nat))
      rw [fcells_next hlt] at hn
      clear hB hw1
      generalize (w.setRow g (((fcells d s k).setIfInBounds (4 + k) (.int .u8 (Fld.pw k : Nat))).setIfInBounds (4 + (k + 255)) (.int .u8 (Fld.pw k : Nat)))).drewN (n + 1) = w3 at hB3 hn ⊢
      have hcx := hB3.cell (514 + Fld.pw k)
      obtain ⟨v, hv⟩ : ∃ v, (((fcells d s k).setIfInBounds (4 + k) (.int .u8 (Fld.pw k : Nat))).setIfInBounds (4 + (k + 255)) (.int .u8 (Fld.pw k : Nat)))[514 + Fld.pw k]? = some v := ⟨_, Array.getElem?_eq_getElem (by simp [fcells, cellsOf_size]; omega)⟩
      rw [hv] at hcx
      have hfx := hB3.frozen (514 + Fld.pw k)
      by_cases hbig : 256 ≤ 2 * Fld.pw k
      · have hx := xt_big hp hbig
        rw [show ((2 * Fld.pw k : Nat) : Int) = (Fld.pw k : Int) * 2 from by omega] at hx
        have HX := Lib.hid hx
        clear hx
        go_wp2
        exact ⟨⟨k + 1, by omega, by go_num, int_eq HX.out, n + 1, rfl⟩, by simp [intOf]; omega⟩
      · go_wp2
        refine ⟨⟨k + 1, by omega, by go_num, ?_, n + 1, rfl⟩, by simp [intOf]; omega⟩
        show Value.int .i64 ((Fld.pw k : Int) * 2) = .int .i64 ((Fld.xt (Fld.pw k) : Nat) : Int)
        unfold Fld.xt
        rw [if_neg hbig]
        exact int_eq (by omega)
    · go_wp2
      go_end0
      obtain rfl : k = 255 := by omega
      exact ⟨rfl, n, rfl⟩
end Cib
