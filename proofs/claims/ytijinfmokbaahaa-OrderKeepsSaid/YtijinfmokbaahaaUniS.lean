/- Order: DeleteFunc and SortFunc at rows that may be nil. -/
import Derived.Test.YtijinfmokbaahaaUniD
import Derived.Test.YtijinfmokbaahaaOrdA
set_option linter.unusedVariables false
set_option linter.unusedSimpArgs false
set_option maxRecDepth 20000
namespace Cib
open Go Go.RowKit Go.Proofs
/-- A row of spans of the call's own, of which the rest may be anything. -/
def Al (w : World) (B : Nat) (A : Option Addr) (n c : Nat) (L : List Sn) : Prop := L.length = n ∧ ((A = none ∧ n = 0 ∧ c = 0) ∨ ∃ g, A = some ⟨g, 0, none⟩ ∧ B ≤ g ∧ n ≤ c ∧ c ≤ maxLen ∧ Lies w g L.toArray)
theorem Own.al {w : World} {B n c : Nat} {A : Option Addr} {L : List Sn} (h : Own w B A n c L) : Al w B A n c L := ⟨h.len, h.cases⟩
theorem pdqNil (w : World) : Calls Try.prog 41 #[.slice none 0 0, .int .i64 0, .int .i64 0, .int .i64 0, cmpV] w fun e w' => e = .returned (.tuple #[]) ∧ w' = w := by
  have HI : Hid (∀ W : World, Calls Try.prog 44 #[.slice none 0 0, .int .i64 0, .int .i64 0, cmpV] W fun e w' => e = .returned (.tuple #[]) ∧ w' = W) := Lib.hid (fun W => by
    unfold cmpV
    go_enter Try.func44, Try.ntmps44
    go_wp2
    refine wp_loop_once ?_
    go_wp2
    first | go_end0 | refine bodyPost_ret (results_none rfl _ _ _) rfl ?_
    exact ⟨rfl, rfl⟩)
  unfold cmpV at *
  go_enter Try.func41, Try.ntmps41
  go_wp2
  refine wp_loop_once ?_
  go_wp2_with (go_at_call 44; refine (HI.out _).mono ?_; rintro e w1 ⟨rfl, rfl⟩)
  first | go_end0 | refine bodyPost_ret (results_none rfl _ _ _) rfl ?_
  exact ⟨rfl, rfl⟩
theorem sortNil (w : World) : Calls Try.prog 32 #[.slice none 0 0, cmpV] w fun e w' => e = .returned (.tuple #[]) ∧ w' = w := by
  have HI := Lib.hid (fun W => pdqNil W)
  have HB := Lib.hid (fun W => bLen_0 W)
  unfold cmpV at *
  go_enter Try.func32, Try.ntmps32
  go_wp2_with (first | (go_at_call 42; refine (HB.out _).mono ?_; rintro e w' ⟨rfl, rfl⟩) | (go_at_call 41; refine (HI.out _).mono ?_; rintro e w1 ⟨rfl, rfl⟩))
  first | go_end0 | refine bodyPost_ret (results_none rfl _ _ _) rfl ?_
  exact ⟨rfl, rfl⟩
theorem delNil (w : World) : Calls Try.prog 30 #[.slice none 0 0, .func (.func 13) #[] #[]] w fun e w' => e = .returned (.slice none 0 0) ∧ Below w.heap.size w w' := by
  have HIX := Lib.hid (idxAny 13 #[] (fun s => Ord.emp s.1 s.2) w 0 0 0 none [] (Rd.nil _ _ _) (Nat.zero_le _) rfl (by decide) (fun a W => by go_simp) (fun i hi W hW => absurd hi (by simp)))
  go_enter Try.func30, Try.ntmps30
  go_upto_region 2 with (go_at_call 40; refine HIX.out.mono ?_; rintro e w1 ⟨v, rfl, hv, hb1⟩; have HV := Lib.hid hv; have HB1 := Lib.hid hb1; clear hv hb1 HIX)
  rcases HV.out with ⟨i, rfl, hiL, hyes, hpre⟩ | ⟨rfl, hall⟩
  · simp at hiL
  · go_wp2
    go_ret
    exact ⟨rfl, HB1.out⟩
theorem delAl (A : Option Addr) (n c B : Nat) (L : List Sn) (w : World) (h : Al w B A n c L) (hs : n ≤ 1000) (hB : B ≤ w.heap.size) :
    Calls Try.prog 30 #[.slice A n c, .func (.func 13) #[] #[]] w fun e w' =>
    ∃ m : Nat, e = .returned (.slice A m c) ∧ m ≤ n ∧ Al w' B A m c (ful L) ∧ Below B w w' := by
  obtain ⟨hl, ⟨rfl, rfl, rfl⟩ | ⟨g, rfl, hg, hnc, hc, hL⟩⟩ := h
  · have : L = [] := List.eq_nil_of_length_eq_zero hl
    subst this
    exact (delNil w).mono fun e w' ⟨he, hb⟩ => ⟨0, he, Nat.le_refl _, ⟨rfl, .inl ⟨rfl, rfl, rfl⟩⟩, hb.mono hB⟩
  · refine (delAny g n c B L w hL hl hg hnc hc hs).mono fun e w' ⟨m, he, hm, hL', hb⟩ => ⟨m, he, ?_, ⟨hm.symm, .inr ⟨g, rfl, hg, ?_, hc, hL'⟩⟩, hb⟩
    · rw [hm, ← hl]; exact List.length_filter_le _ _
    · rw [hm]; exact Nat.le_trans (List.length_filter_le _ _) (by omega)
/-- In order by where they begin. -/
def Srt (L : List Sn) : Prop := L.Pairwise fun x y => Ord.lt y.1 x.1 = false
theorem sortAl (A : Option Addr) (n c B : Nat) (L : List Sn) (w : World) (h : Al w B A n c L) (hs : n ≤ 45) :
    Calls Try.prog 32 #[.slice A n c, cmpV] w fun e w' =>
    e = .returned (.tuple #[]) ∧ ∃ M : List Sn, M.Perm L ∧ Srt M ∧ Al w' B A n c M ∧ Below B w w' := by
  obtain ⟨hl, ⟨rfl, rfl, rfl⟩ | ⟨g, rfl, hg, hnc, hc, hL⟩⟩ := h
  · have : L = [] := List.eq_nil_of_length_eq_zero hl
    subst this
    exact (sortNil w).mono fun e w' ⟨he, hw⟩ => ⟨he, [], .refl _, .nil, ⟨rfl, .inl ⟨rfl, rfl, rfl⟩⟩, by rw [hw]; exact Below.refl _ _⟩
  · refine (ordSortN g n c B L.toArray w hL (by simpa using hl) hg hs).mono fun e w' ⟨he, d, hp, hsd, hL', hb⟩ => ⟨he, d.toList, ?_, ?_, ⟨?_, .inr ⟨g, rfl, hg, hnc, hc, by simpa using hL'⟩⟩, hb⟩
    · have h3 := hp.2.2
      have hz : d.size = n := by rw [hp.1]; simpa using hl
      have e1 : d.extract 0 n = d := by rw [← hz]; exact Array.extract_size
      have e2 : L.toArray.extract 0 n = L.toArray := by
        have e3 : n = L.toArray.size := by simpa using hl.symm
        rw [e3]
        exact Array.extract_size
      rw [e1, e2] at h3
      exact h3
    · have hz : d.size = n := by rw [hp.1]; simpa using hl
      refine List.pairwise_iff_getElem.2 fun i j hi hj hij => ?_
      have := hsd i j (Nat.zero_le _) hij (by simp at hj; omega)
      have hi' : i < d.size := by simpa using hi
      have hj' : j < d.size := by simpa using hj
      simpa [ltS, hi', hj'] using this
    · have hz : d.size = n := by rw [hp.1]; simpa using hl
      simpa using hz
end Cib
