/- judges: what must come at any rate. -/
import Derived.Test.YtagnckiikljhkaaVrdB
set_option linter.unusedVariables false
set_option linter.unusedSimpArgs false
set_option maxRecDepth 20000
namespace Cib
open Go Go.RowKit Go.Proofs
variable {w w' : World} {base : Nat}
/-- A literal's keys. -/
theorem KeyS.lit (w : World) (base : Nat) (l : List ByteArray) (C : Array Value) (h : C.toList = l.map sv) : KeyS (w.alloc (.cells C 9)) base (some ⟨w.heap.size, 0, none⟩) l :=
  ⟨(Rd.new w C _ _ h).more (by simp), fun _ ad e => by
    injection e with e
    subst e
    exact .inr ⟨C, (0, 0), heap_alloc_new w _⟩⟩
def kA : ByteArray := ⟨#[97]⟩
def kB : ByteArray := ⟨#[98]⟩
def kC : ByteArray := ⟨#[99]⟩
set_option maxHeartbeats 1000000 in
theorem judges (w : World) : Calls Try.prog 6 #[] w fun e w' => e = .returned (.bool true) ∧ Below w.heap.size w w' := by
  have HN := Lib.hid (vdNew w)
  have HA1 : Hid (Vrd.ask ltS (Vrd.note Vrd.none_ 5 [kA, kB]) 4 [kB, kC] = (kB, 5, true)) := (show _ = _ from rfl)
  have HA2 : Hid ((Vrd.ask ltS (Vrd.note Vrd.none_ 5 [kA, kB]) 5 [kB]).2.2 = false) := (show _ = _ from rfl)
  have HS : Hid (∀ l : List ByteArray, (∀ k ∈ l, k = kA ∨ k = kB ∨ k = kC) → ∀ k ∈ l, k.size ≤ maxLen) := fun l h k hk => by
    rcases h k hk with rfl | rfl | rfl <;> decide
  go_enter Try.func6, Try.ntmps6
  go_wp2_with fail
  refine HN.out.mono ?_
  rintro e w1 ⟨g, b, rfl, hV1, hb1⟩
  clear HN
  go_wp2_with fail
  have hz1 := hb1.size
  have hal1 : Below w1.heap.size w1 (w1.alloc (.cells #[.string ⟨#[97]⟩, .string ⟨#[98]⟩] 9)) := (Below.refl _ _).alloc (Nat.le_refl _) _
  have hk1 : KeyS (w1.alloc (.cells #[.string ⟨#[97]⟩, .string ⟨#[98]⟩] 9)) w.heap.size (some ⟨w1.heap.size, 0, none⟩) [kA, kB] := KeyS.lit w1 _ [kA, kB] _ rfl
  refine (vdNote (hV1.below hal1) 5 (by decide) (by decide) hk1 (HS.out _ (by simp)) rfl (by decide) (by decide) (by decide) 2).mono ?_
  rintro e w2 ⟨rfl, ⟨v2, A2, c2, _, hV2⟩, hc2⟩
  have hb2 := (hb1.via hal1).trans hc2.below
  clear hV1 hal1 hk1 hb1 hc2
  go_wp2_with fail
  have hal2 : Below w2.heap.size w2 (w2.alloc (.cells #[.string ⟨#[98]⟩, .string ⟨#[99]⟩] 9)) := (Below.refl _ _).alloc (Nat.le_refl _) _
  have hk2 : KeyS (w2.alloc (.cells #[.string ⟨#[98]⟩, .string ⟨#[99]⟩] 9)) w.heap.size (some ⟨w2.heap.size, 0, none⟩) [kB, kC] := KeyS.lit w2 _ [kB, kC] _ rfl
  have hV3 := hV2.below hal2
  replace hb2 := hb2.via hal2
  clear hV2 hal2
  generalize (w2.alloc (.cells #[.string ⟨#[98]⟩, .string ⟨#[99]⟩] 9)) = wa at *
  refine (vdAsk hV3 4 hk2 (HS.out _ (by simp)) rfl (by unfold maxLen; decide) 2).mono ?_
  rw [HA1.out]
  rintro e w3 ⟨rfl, rfl⟩
  clear hk2 HA1
  go_wp2_with fail
  have hal3 : Below w3.heap.size w3 (w3.alloc (.cells #[.string ⟨#[98]⟩] 9)) := (Below.refl _ _).alloc (Nat.le_refl _) _
  have hk3 : KeyS (w3.alloc (.cells #[.string ⟨#[98]⟩] 9)) w.heap.size (some ⟨w3.heap.size, 0, none⟩) [kB] := KeyS.lit w3 _ [kB] _ rfl
  have hV4 := hV3.below hal3
  replace hb2 := hb2.via hal3
  clear hV3 hal3
  generalize (w3.alloc (.cells #[.string ⟨#[98]⟩] 9)) = wb at *
  refine (vdAsk hV4 5 hk3 (HS.out _ (by simp)) rfl (by unfold maxLen; decide) 1).mono ?_
  obtain ⟨R, HR⟩ : ∃ R, Hid (Vrd.ask ltS (Vrd.note Vrd.none_ 5 [kA, kB]) 5 [kB] = R) := ⟨_, rfl⟩
  rw [HR.out] at HA2 ⊢
  obtain ⟨r1, r2, r3⟩ := R
  obtain rfl : r3 = false := HA2.out
  rintro e w4 ⟨rfl, rfl⟩
  have HB := Lib.hid hb2
  have HL := Lib.hid (vdLen hV4)
  have HT := Lib.hid (vdLast hV4)
  have HN := Lib.hid (vdNote0 hV4 5 (by decide) (.slice none 0 0))
  clear hV4 hk3 hb2 HA2 HR HS
  have hkb : kB.toList = [98] := by decide +kernel
  go_wp2_with (first | (go_at_call 11; refine HL.out.mono ?_; rintro e w5 ⟨rfl, rfl⟩) | (go_at_call 15; refine HT.out.mono ?_; rintro e w5 ⟨rfl, rfl⟩) | (go_at_call 10; refine HN.out.mono ?_; rintro e w5 ⟨rfl, rfl⟩))
  go_ret
  exact ⟨rfl, HB.out⟩
end Cib
