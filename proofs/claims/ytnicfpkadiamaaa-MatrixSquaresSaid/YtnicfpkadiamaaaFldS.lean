/- Multiples of rows by the field's tables. -/
import Derived.Test.YtnicfpkadiamaaaFldA
import Derived.Test.YtnicfpkadiamaaaBytes
set_option linter.unusedVariables false
set_option linter.unusedSimpArgs false
set_option maxRecDepth 20000
namespace Cib
open Go Go.RowKit Go.Proofs

/-- One step of the field's own: its memory has the tables, there may be new memory, all else stays. -/
structure Stp (g : Nat) (w w' : World) : Prop where
  full : Full w' g
  os : w'.os = w.os
  tape : w'.tape = w.tape
  output : w'.output = w.output
  size : w.heap.size ≤ w'.heap.size
  oth : ∀ k, k < w.heap.size → k ≠ g → w'.heap[k]? = w.heap[k]?
theorem Fld.lt {w : World} {g : Nat} (h : Fld w g) : g < w.heap.size := by rcases h with h | h <;> exact Blk.lt h
theorem Full.lt {w : World} {g : Nat} (h : Full w g) : g < w.heap.size := Blk.lt h
theorem Full.below {w w' : World} {g B : Nat} (h : Full w g) (hb : Below B w w') (hg : g < B) : Full w' g := Blk.below h hb hg
theorem Aft.stp {w w1 w2 : World} {g : Nat} (h : Aft g w w1) (hb : Below w1.heap.size w1 w2) : Stp g w w2 where
  full := h.full.below hb h.full.lt
  os := hb.os.trans h.os
  tape := hb.tape.trans h.tape
  output := hb.output.trans h.output
  size := by rw [← h.size]; exact hb.size
  oth := fun k hk hg => (hb.block k (by rw [h.size]; exact hk)).trans (h.oth k hg)
theorem Stp.below {w w' a : World} {g B : Nat} (h : Stp g w w') (hb : Below B a w) (hg : B ≤ g) (hs : B ≤ w.heap.size) : Below B a w' :=
  ⟨h.os.trans hb.os, h.tape.trans hb.tape, h.output.trans hb.output, Nat.le_trans hb.size h.size, fun k hk => (h.oth k (by omega) (by omega)).trans (hb.block k hk)⟩
/-- Where the field has its tables already, every slice reads on. -/
theorem Aft.rdFull {w w' : World} {g B : Nat} (h : Aft g w w') (hf : Full w g) {A : Option Addr} {vs : List Value} (hr : Rd w B A vs) : Rd w' B A vs := hr.keep fun p hp => by
  by_cases hk : p.block = g
  · have h1 : w'.heap[p.block]? = w.heap[p.block]? := by
      rw [hk]
      exact Eq.trans (b := some _) h.full hf.symm
    simp only [World.cell?, h1]
  · exact h.cell hk
theorem fldReadyA (g : Nat) (w : World) (hb : Fld w g) :
    Calls Try.prog 49 #[.pointer (some ⟨g, 0, none⟩)] w fun e w' => e = .returned (.bool true) ∧ Aft g w w' := by
  refine (fldReady g w hb).mono ?_
  rintro e w' ⟨rfl, n, rfl⟩
  exact ⟨rfl, Aft.of hb n⟩
/-- A multiple of a row. -/
def scB (c : Nat) (row : List UInt8) : List UInt8 := row.map fun x => UInt8.ofNat (Fld.gmul c x.toNat)
theorem scB_length (c : Nat) (row : List UInt8) : (scB c row).length = row.length := by simp [scB]
theorem scB_toNat {c : Nat} (hc : c < 256) (x : UInt8) : (UInt8.ofNat (Fld.gmul c x.toNat)).toNat = Fld.gmul c x.toNat := by
  rw [UInt8.toNat_ofNat']
  exact Nat.mod_eq_of_lt (Fld.gmul_lt hc)
/-- New bytes, from a step of the field's. -/
def NewF (g : Nat) (bs : List UInt8) (w : World) (e : Ending) (w' : World) : Prop :=
  ∃ A n c, e = .returned (.slice A n c) ∧ bs.length = n ∧ w'.ownsRow w.heap.size 5 1 (.slice A n c) n (bs.map bv) ∧ Stp g w w'

theorem fldScale (g c : Nat) (hc : c < 256) (A : Option Addr) (cap : Nat) (row : List UInt8) (w : World) (h : Fld w g) (B : Nat) (hr : ∀ w1, Aft g w w1 → Rd w1 B A (row.map bv)) {len : Nat} (hn : row.length = len) (hB : B ≤ w.heap.size) (hl : len ≤ 1000000000) :
    Calls Try.prog 51 #[.pointer (some ⟨g, 0, none⟩), .int .u8 (c : Int), .slice A len cap] w (NewF g (scB c row) w) := by
  subst hn
  have hmk := makeB row.length (by omega)
  go_enter Try.func51, Try.ntmps51
  go_wp2_with (go_at_call 49; refine (fldReadyA g w h).mono ?_; rintro e w1 ⟨rfl, ha⟩)
  go_loopw [8, 9, 18] (fun _ _ i wr => ∃ k : Nat, k ≤ row.length ∧ i = .int .i64 k ∧ Below w1.heap.size w1 wr ∧ wr.ownsRow w1.heap.size 5 1 (.slice (some ⟨w1.heap.size, 0, none⟩) row.length row.length) row.length ((fillB (scB c row) k).map bv)) (fun _ _ i _ => row.length - (intOf i).toNat)
  case atStart =>
    refine ⟨0, Nat.zero_le _, rfl, (Below.refl _ _).alloc (Nat.le_refl _) _, ?_⟩
    rw [fillB_zero, List.map_replicate, scB_length]
    exact own_made w1 _ _ _ _ _ (Nat.le_refl _) (by omega) (by unfold maxLen; omega)
  case round =>
    obtain ⟨k, hk, rfl, hb, ho⟩ := hrel
    have hsz := Lib.hid ha.size
    by_cases hlt : k < row.length
    · obtain ⟨ad, rfl, hB2, hc2⟩ := (((hr w1 ha).more (by have := hsz.out; omega : B ≤ w1.heap.size)).below hb).byte hlt
      have hF := ha.full.below hb ha.full.lt
      have HT := Lib.hid (fldTmul g c row[k].toNat hc row[k].toNat_lt wr hF)
      obtain ⟨hc1, hf1, hset⟩ := own_byte ho (j := k) (by rw [fillB_length _ _ (by rw [scB_length]; exact hk), scB_length]; exact hlt)
      have HN := Lib.hid (scB_toNat hc row[k])
      have HS := Lib.hid (hset (UInt8.ofNat (Fld.gmul c row[k].toNat)))
      have HF := Lib.hid (fillB_set (scB c row) k (by rw [scB_length]; exact hlt))
      have HG : Hid ((scB c row)[k]'(by rw [scB_length]; exact hlt) = UInt8.ofNat (Fld.gmul c row[k].toNat)) := by show _ = _; simp [scB]
      clear hset hF
      go_wp2_with (go_at_call 50; refine HT.out.mono ?_; rintro e w' ⟨rfl, n, rfl⟩)
      refine ⟨⟨k + 1, by omega, by go_num, (below_drewN hb n).setCell (Nat.le_refl _) _, ?_⟩, by simp [intOf]; omega⟩
      have hs := HS.out n
      rw [HN.out, ← HG.out, HF.out] at hs
      exact hs
    · obtain rfl : k = row.length := by omega
      rw [← scB_length c row, fillB_all, scB_length] at ho
      go_wp2
      go_ret
      exact ⟨_, _, _, rfl, scB_length c row, by rw [← hsz.out]; exact ho, ha.stp hb⟩
end Cib
