/- Order: slices.SortFunc at any row of at most 45 spans. -/
import Derived.Test.YtijinfmokbaahaaOrdZ
set_option linter.unusedVariables false
set_option linter.unusedSimpArgs false
set_option maxRecDepth 20000
namespace Cib
open Go Go.RowKit Go.Proofs
set_option maxHeartbeats 1000000 in
theorem ordSortN (g n c B : Nat) (d : Array Sn) (w : World) (h : Lies w g d) (hn : d.size = n) (hg : B ≤ g) (hs : n ≤ 45) : Calls Try.prog 32 #[.slice (some ⟨g, 0, none⟩) n c, cmpV] w fun e w' =>
    e = .returned (.tuple #[]) ∧ ∃ d', Go.Sort.PermIn 0 n d d' ∧ Go.Sort.SortedIn ltS 0 n d' ∧ Lies w' g d' ∧ Below B w w' := by
  have HP : Hid (∀ l : Nat, l ≤ 6 → Calls Try.prog 41 #[.slice (some ⟨g, 0, none⟩) n c, .int .i64 0, .int .i64 n, .int .i64 l, cmpV] w fun e w' => e = .returned (.tuple #[]) ∧ ∃ d', Go.Sort.PermIn 0 n d d' ∧ Go.Sort.SortedIn ltS 0 n d' ∧ Lies w' g d' ∧ Below B w w') :=
    Lib.hid (fun l hl => ordPdqN g n c B hg hs (n + 1) 0 n l d w (by omega) h hn (Nat.zero_le _) (Nat.le_refl _) hl (.inl rfl))
  have wn : IntKind.u64.wrap ((n : Int)) = (n : Int) := by rw [IntKind.wrap_u64]; omega
  clear h hn
  unfold cmpV at *
  go_enter Try.func32, Try.ntmps32
  go_wp2_with (first | (go_at_call 42; refine (bLenN n hs _).mono ?_; rintro e w' ⟨⟨l, rfl, hl⟩, rfl⟩) | (go_at_call 41; refine (HP.out l hl).mono ?_; rintro e w1 ⟨rfl, d1, P1, S1, L1, B1⟩))
  first | go_end0 | refine bodyPost_ret (results_none rfl _ _ _) rfl ?_
  exact ⟨rfl, d1, P1, S1, L1, B1⟩
end Cib
