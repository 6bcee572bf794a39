/- The field is ready at its first use: sync.Once, and the field's products. -/
import Derived.Test.YtnicfpkadiamaaaFldF
set_option linter.unusedVariables false
set_option linter.unusedSimpArgs false
set_option maxRecDepth 20000
namespace Cib
open Go Go.RowKit Go.Proofs

theorem bool_load (g o : Nat) (d : Nat) (w : World) (h0 : w.cell? ⟨g, o, none⟩ = some (.int .u32 (d : Int))) :
    Calls Try.prog 54 #[.pointer (some ⟨g, o, none⟩)] w fun e w' => e = .returned (.bool ((d : Int) != 0)) ∧ w' = w := by
  have hl := run_call_load (P := Try.prog) Try.func56 (by kernel_rfl) (by kernel_rfl) (by kernel_rfl) .u32 (by kernel_rfl) h0
  go_enter Try.func54, Try.ntmps54
  go_wp2
  go_ret
  exact ⟨rfl, rfl⟩
set_option maxHeartbeats 1600000 in
theorem fldSlow (g : Nat) (w : World) (hb : Blk w g 67 (fcells 0 0 0)) :
    Calls Try.prog 55 #[.pointer (some ⟨g, 0, none⟩), .func (.func 53) #[.pointer (some ⟨g, 0, none⟩)] #[]] w fun e w' => e = .returned (.tuple #[]) ∧ ∃ n, w' = (w.setRow g (fcells 1 0 255)).drewN n := by
  have h0 := (hb.cell 0).trans fcells_done
  have h1 := (hb.cell 1).trans fcells_lock
  have f0 := hb.frozen 0
  have f1 := hb.frozen 1
  have e1 : w.setCell ⟨g, 1, none⟩ (.int .i32 1) = w.setRow g (fcells 0 1 0) := by
    rw [setCell_eq_setRow w g 1 _ _ _ _ hb]
    exact congrArg _ (fcells_set_lock (s' := 1))
  have hB1 : Blk (w.setRow g (fcells 0 1 0)) g 67 (fcells 0 1 0) := hb.row _
  have HL := Lib.hid (bool_load g 0 0 _ ((hB1.cell 0).trans fcells_done))
  have hnot : ∀ (x : Bool) (w : World), (Op.unary .not (.bool x)).run Try.prog w = .ok (.bool (!x)) w := fun _ _ => rfl
  have HF := Lib.hid (fldFill g 0 1 (w.setRow g (fcells 0 1 0)) hB1)
  clear hB1
  go_enter_defers Try.func55, Try.ntmps55
  go_wp2_with (first | (go_at_call 57; refine (lock_free g 1 _ (by go_simp) (by go_simp)).mono ?_; rintro e w' ⟨rfl, rfl⟩; rw [e1]) | (go_at_call 54; refine HL.out.mono ?_; rintro e w' ⟨rfl, rfl⟩) | (go_at_call 53; refine HF.out.mono ?_; rintro e w' ⟨rfl, n, rfl⟩))
  rw [setRow_setRow]
  try go_wp2
  clear HF HL h0 h1 f0 f1 e1
  have hB2 : Blk ((w.setRow g (fcells 0 1 255)).drewN n) g 67 (fcells 0 1 255) := (hb.row _).drewN n
  have e2 : ((w.setRow g (fcells 0 1 255)).drewN n).drew.setCell ⟨g, 0, none⟩ (.int .u32 1) = (w.setRow g (fcells 1 1 255)).drewN (n + 1) := by
    show ((w.setRow g (fcells 0 1 255)).drewN (n + 1)).setCell ⟨g, 0, none⟩ (.int .u32 1) = _
    rw [setCell_row hb]
    exact congrArg (fun c => (w.setRow g c).drewN (n + 1)) (fcells_set_done (d' := 1))
  have hB3 : Blk ((w.setRow g (fcells 1 1 255)).drewN (n + 1)) g 67 (fcells 1 1 255) := (hb.row _).drewN (n + 1)
  have e3 : ((w.setRow g (fcells 1 1 255)).drewN (n + 1)).setCell ⟨g, 1, none⟩ (.int .i32 0) = (w.setRow g (fcells 1 0 255)).drewN (n + 1) := by
    rw [setCell_row hb]
    exact congrArg (fun c => (w.setRow g c).drewN (n + 1)) (fcells_set_lock (s' := 0))
  refine leaves_cons (f := 59) (args := #[.pointer (some ⟨g, 0, none⟩), .bool true]) (by simp) (by simp [go_sem]) ?_
  refine (store_deferred ⟨g, 0, none⟩ _ .returning _ ((hB2.cell 0).trans fcells_done) (hB2.frozen 0)).mono ?_
  rintro e u' w'' ⟨rfl, rfl, rfl⟩
  rw [e2]
  refine leaves_cons (f := 58) (args := #[.pointer (some ⟨g, 1, none⟩)]) (by simp [settle]) (by simp [go_sem]) ?_
  refine (unlock_deferred g 1 _ _ ((hB3.cell 1).trans fcells_lock) (hB3.frozen 1)).mono ?_
  rintro e u' w'' ⟨rfl, rfl, rfl⟩
  rw [e3]
  simp [Leaves, settle, results, Try.results55]
  exact ⟨n + 1, rfl⟩
/-- A field's memory: new, or with its tables. -/
def Fld (w : World) (g : Nat) : Prop := Blk w g 67 (fcells 0 0 0) ∨ Blk w g 67 (fcells 1 0 255)
theorem fldDo (g : Nat) (w : World) (hb : Fld w g) :
    Calls Try.prog 52 #[.pointer (some ⟨g, 0, none⟩), .func (.func 53) #[.pointer (some ⟨g, 0, none⟩)] #[]] w fun e w' => e = .returned (.tuple #[]) ∧ ∃ n, w' = (w.setRow g (fcells 1 0 255)).drewN n := by
  have hnot : ∀ (x : Bool) (w : World), (Op.unary .not (.bool x)).run Try.prog w = .ok (.bool (!x)) w := fun _ _ => rfl
  rcases hb with hb | hb
  · have HL := Lib.hid (bool_load g 0 0 _ ((hb.cell 0).trans fcells_done))
    have HS := Lib.hid (fldSlow g w hb)
    clear hb
    generalize fcells 1 0 255 = C at HS ⊢
    go_enter Try.func52, Try.ntmps52
    go_wp2_with (first | (go_at_call 54; refine HL.out.mono ?_; rintro e w' ⟨rfl, rfl⟩) | (go_at_call 55; refine HS.out.mono ?_; rintro e w' ⟨rfl, n, rfl⟩))
    go_end0
    exact ⟨rfl, n, rfl⟩
  · have HL := Lib.hid (bool_load g 0 1 _ ((hb.cell 0).trans fcells_done))
    have HE : Hid (w.setRow g (fcells 1 0 255) = w) := setRow_self w g _ _ _ hb
    clear hb
    generalize fcells 1 0 255 = C at HE ⊢
    go_enter Try.func52, Try.ntmps52
    go_wp2_with (go_at_call 54; refine HL.out.mono ?_; rintro e w' ⟨rfl, rfl⟩)
    go_end0
    exact ⟨rfl, 0, HE.out.symm⟩
theorem Fld.made {w : World} {g : Nat} (h : Fld w g) : w.cell? ⟨g, 3, none⟩ = some (.bool true) := by
  rcases h with h | h <;> exact (h.cell 3).trans fcells_made
theorem fldReady (g : Nat) (w : World) (hb : Fld w g) :
    Calls Try.prog 49 #[.pointer (some ⟨g, 0, none⟩)] w fun e w' => e = .returned (.bool true) ∧ ∃ n, w' = (w.setRow g (fcells 1 0 255)).drewN n := by
  have hm := hb.made
  have HD := Lib.hid (fldDo g w hb)
  have hmf : ∀ (fn : Fn) (first cap : Array Value) (w : World), (Instr.makeFunc fn first cap).run Try.prog w = .ok (.func fn first cap) w := fun _ _ _ _ => rfl
  clear hb
  generalize fcells 1 0 255 = C at HD ⊢
  go_enter Try.func49, Try.ntmps49
  go_wp2_with (go_at_call 52; refine HD.out.mono ?_; rintro e w' ⟨rfl, n, rfl⟩)
  go_ret
  exact ⟨rfl, n, rfl⟩
end Cib
