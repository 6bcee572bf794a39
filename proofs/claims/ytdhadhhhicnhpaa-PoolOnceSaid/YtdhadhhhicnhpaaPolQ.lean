/- PoolOnce: plain law: which places are out, which in limbo. -/
import Derived.Test.YtdhadhhhicnhpaaPolS
set_option linter.unusedVariables false
set_option linter.unusedSimpArgs false
namespace Bmp
theorem has_get (bs : List Bool) (i : Nat) : has bs (i : Int) = bs.getD i false := by
  by_cases h : i < bs.length
  · rw [has_in h]
    simp [List.getD, h]
  · rw [has_out (by omega)]
    simp [List.getD, List.getElem?_eq_none (show bs.length ≤ i by omega)]
theorem has_neg {bs : List Bool} {j : Int} (h : j < 0) : has bs j = false := has_out (by omega)
theorem has_nat {bs : List Bool} {j : Int} (h : has bs j = true) : ∃ i : Nat, j = (i : Int) ∧ i < bs.length ∧ bs.getD i false = true := by
  have := has_lt h
  refine ⟨j.toNat, by omega, by omega, ?_⟩
  rw [← has_get, Int.toNat_of_nonneg this.1]
  exact h
theorem get_set (bs : List Bool) (i j : Nat) (b : Bool) (hi : i < bs.length) : (bs.set i b).getD j false = if j = i then b else bs.getD j false := by
  by_cases h : j = i
  · subst h
    simp [List.getD, hi]
  · rw [if_neg h]
    simp [List.getD, List.getElem?_set_ne (Ne.symm h)]
theorem has_set (bs : List Bool) (i : Nat) (j : Int) (b : Bool) (hi : i < bs.length) : has (bs.set i b) j = if j = (i : Int) then b else has bs j := by
  by_cases h : 0 ≤ j
  · obtain ⟨k, rfl⟩ : ∃ k : Nat, j = (k : Int) := ⟨j.toNat, by omega⟩
    rw [has_get, has_get, get_set _ _ _ _ hi]
    by_cases hk : k = i
    · rw [if_pos hk, if_pos (by omega)]
    · rw [if_neg hk, if_neg (by omega)]
  · rw [has_neg (by omega), has_neg (by omega), if_neg (by omega)]
/-- All in limbo are out. -/
def Sub (O Z : List Bool) : Prop := ∀ j, has Z j = true → has O j = true
def limB (f : Nat) (Z : List Bool) (a : Int) : Bool := decide ((f : Int) ≤ a) && has Z (a - f)
theorem taken_has {f : Nat} {O Z : List Bool} {a : Int} (h : takenB f O Z a = true) : (f : Int) ≤ a ∧ has O (a - f) = true ∧ has Z (a - f) = false := by
  unfold takenB at h
  simp at h
  exact ⟨h.1.1, h.1.2, h.2⟩
theorem taken_of {f : Nat} {O Z : List Bool} {a : Int} (h : (f : Int) ≤ a ∧ has O (a - f) = true ∧ has Z (a - f) = false) : takenB f O Z a = true := by
  unfold takenB
  simp [h]
/-- One place given back. -/
theorem give1 {f : Nat} {s : Nat × List Bool × List Bool} {a0 : Int} (hs : Sub s.2.1 s.2.2) :
    (∀ a, takenB f (turn1 false f s a0).2.1 (turn1 false f s a0).2.2 a = (takenB f s.2.1 s.2.2 a && !decide (a = a0))) ∧ (turn1 false f s a0).2.2 = s.2.2 ∧ Sub (turn1 false f s a0).2.1 (turn1 false f s a0).2.2 := by
  unfold turn1
  by_cases h : takenB f s.2.1 s.2.2 a0 = true
  · rw [if_pos h]
    obtain ⟨h1, h2, h3⟩ := taken_has h
    obtain ⟨i, hi, hl, _⟩ := has_nat h2
    have hi' : (a0 - (f : Int)).toNat = i := by omega
    simp only [Bool.false_eq_true, if_false, hi']
    refine ⟨fun a => ?_, by first | rfl | trivial, fun j hj => ?_⟩
    · unfold takenB
      rw [has_set _ _ _ _ hl]
      by_cases ha : a = a0
      · subst ha
        rw [if_pos hi]
        simp
      · by_cases hfa : (f : Int) ≤ a
        · rw [if_neg (by omega)]
          simp [ha]
        · simp [hfa]
    · rw [has_set _ _ _ _ hl]
      by_cases hji : j = (i : Int)
      · rw [hji, ← hi, h3] at hj
        cases hj
      · rw [if_neg hji]
        exact hs j hj
  · rw [if_neg h]
    refine ⟨fun a => ?_, rfl, hs⟩
    by_cases ha : a = a0
    · subst ha
      simp at h
      simp [h]
    · simp [ha]
theorem giveAll (f : Nat) : ∀ (l : List Int) (s : Nat × List Bool × List Bool), Sub s.2.1 s.2.2 →
    (∀ a, takenB f (l.foldl (turn1 false f) s).2.1 (l.foldl (turn1 false f) s).2.2 a = (takenB f s.2.1 s.2.2 a && !decide (a ∈ l))) ∧ (l.foldl (turn1 false f) s).2.2 = s.2.2 ∧ Sub (l.foldl (turn1 false f) s).2.1 (l.foldl (turn1 false f) s).2.2
  | [], s, hs => ⟨fun a => by simp, rfl, hs⟩
  | a0 :: l, s, hs => by
    obtain ⟨h1, h2, h3⟩ := give1 (f := f) (a0 := a0) hs
    obtain ⟨g1, g2, g3⟩ := giveAll f l _ h3
    refine ⟨fun a => ?_, g2.trans h2, g3⟩
    rw [List.foldl_cons, g1, h1]
    by_cases ha : a = a0 <;> by_cases hm : a ∈ l <;> simp [ha, hm]
theorem later1 {f : Nat} {s : Nat × List Bool × List Bool} {a0 : Int} (hl : s.2.2.length = s.2.1.length) (hs : Sub s.2.1 s.2.2) :
    (∀ a, takenB f (turn1 true f s a0).2.1 (turn1 true f s a0).2.2 a = (takenB f s.2.1 s.2.2 a && !decide (a = a0))) ∧ (∀ a, limB f (turn1 true f s a0).2.2 a = (limB f s.2.2 a || (takenB f s.2.1 s.2.2 a0 && decide (a = a0)))) ∧ (turn1 true f s a0).2.1 = s.2.1 ∧ (turn1 true f s a0).2.2.length = s.2.2.length ∧ Sub (turn1 true f s a0).2.1 (turn1 true f s a0).2.2 := by
  unfold turn1
  by_cases h : takenB f s.2.1 s.2.2 a0 = true
  · rw [if_pos h]
    obtain ⟨h1, h2, h3⟩ := taken_has h
    obtain ⟨i, hi, hlt, _⟩ := has_nat h2
    have hi' : (a0 - (f : Int)).toNat = i := by omega
    have hlz : i < s.2.2.length := by omega
    simp only [if_true, hi']
    refine ⟨fun a => ?_, fun a => ?_, trivial, by simp, fun j hj => ?_⟩
    · unfold takenB
      rw [has_set _ _ _ _ hlz]
      by_cases ha : a = a0
      · subst ha
        rw [if_pos hi]
        simp
      · by_cases hfa : (f : Int) ≤ a
        · rw [if_neg (by omega)]
          simp [ha]
        · simp [hfa]
    · unfold limB
      rw [has_set _ _ _ _ hlz, h]
      by_cases ha : a = a0
      · subst ha
        rw [if_pos hi]
        simp [h1]
      · by_cases hfa : (f : Int) ≤ a
        · rw [if_neg (by omega)]
          simp [ha]
        · simp [hfa, ha]
    · rw [has_set _ _ _ _ hlz] at hj
      by_cases hji : j = (i : Int)
      · rw [hji, ← hi]
        exact h2
      · rw [if_neg hji] at hj
        exact hs j hj
  · rw [if_neg h]
    have h' : takenB f s.2.1 s.2.2 a0 = false := by simpa using h
    refine ⟨fun a => ?_, fun a => by rw [h']; simp, rfl, rfl, hs⟩
    by_cases ha : a = a0
    · subst ha
      simp [h']
    · simp [ha]
theorem laterAll (f : Nat) : ∀ (l : List Int) (s : Nat × List Bool × List Bool), s.2.2.length = s.2.1.length → Sub s.2.1 s.2.2 →
    (∀ a, takenB f (l.foldl (turn1 true f) s).2.1 (l.foldl (turn1 true f) s).2.2 a = (takenB f s.2.1 s.2.2 a && !decide (a ∈ l))) ∧ (∀ a, limB f (l.foldl (turn1 true f) s).2.2 a = (limB f s.2.2 a || (takenB f s.2.1 s.2.2 a && decide (a ∈ l)))) ∧ Sub (l.foldl (turn1 true f) s).2.1 (l.foldl (turn1 true f) s).2.2
  | [], s, _, hs => ⟨fun a => by simp, fun a => by simp, hs⟩
  | a0 :: l, s, hl, hs => by
    obtain ⟨h1, h2, h4, h5, h3⟩ := later1 (f := f) (a0 := a0) hl hs
    obtain ⟨g1, g2, g3⟩ := laterAll f l _ (by rw [h5, h4]; exact hl) h3
    refine ⟨fun a => ?_, fun a => ?_, g3⟩
    · rw [List.foldl_cons, g1, h1]
      by_cases ha : a = a0 <;> by_cases hm : a ∈ l <;> simp [ha, hm]
    · rw [List.foldl_cons, g2, h2, h1]
      by_cases ha : a = a0
      · subst ha
        cases limB f s.2.2 a <;> cases takenB f s.2.1 s.2.2 a <;> simp
      · simp [ha]
/-- The law's lists, of what is out and in limbo. -/
structure OnceI (f : Nat) (O Z : List Bool) (U M : List Int) : Prop where
  mU : ∀ a, a ∈ U ↔ takenB f O Z a = true
  mM : ∀ a, a ∈ M ↔ limB f Z a = true
  nU : U.Nodup
  nM : M.Nodup
  sub : Sub O Z
  len : Z.length = O.length
variable {f : Nat} {O Z : List Bool} {U M : List Int}
theorem OnceI.start (f n : Nat) : OnceI f (List.replicate n false) (List.replicate n false) [] [] := by
  have h : ∀ j, has (List.replicate n false) j = false := fun j => by
    by_cases hx : has (List.replicate n false) j = true
    · obtain ⟨i, _, hl, hg⟩ := has_nat hx
      simp [List.getD, List.getElem?_replicate] at hg hl
      split at hg <;> simp at hg
    · simpa using hx
  exact ⟨fun a => by simp [takenB, h], fun a => by simp [limB, h], List.nodup_nil, List.nodup_nil, (fun j hj => by rw [h] at hj; cases hj), rfl⟩
theorem OnceI.give (h : OnceI f O Z U M) (l : List Int) : OnceI f (turnF false f O Z l).2.1 (turnF false f O Z l).2.2 (U.filter fun a => !decide (a ∈ l)) M := by
  obtain ⟨h1, h2, h3⟩ := giveAll f l (0, O, Z) h.sub
  have e2 : (turnF false f O Z l).2.2 = Z := h2
  refine ⟨fun a => ?_, fun a => by rw [e2]; exact h.mM a, h.nU.filter _, h.nM, h3, ?_⟩
  · rw [List.mem_filter, h.mU]
    unfold turnF
    rw [h1]
    simp
  · rw [e2]
    have : ∀ (l : List Int) (s : Nat × List Bool × List Bool), (l.foldl (turn1 false f) s).2.1.length = s.2.1.length := by
      intro l
      induction l with
      | nil => intro s; rfl
      | cons x l ih =>
        intro s
        rw [List.foldl_cons, ih]
        unfold turn1
        split <;> simp
    exact h.len.trans (this l (0, O, Z)).symm
/-- What the law puts in limbo. -/
def lim1 (U : List Int) (M : List Int) (a : Int) : List Int := if a ∈ U ∧ a ∉ M then M ++ [a] else M
theorem lim1_mem (U M : List Int) (a b : Int) : b ∈ lim1 U M a ↔ b ∈ M ∨ (b ∈ U ∧ b = a) := by
  unfold lim1
  split
  · rename_i h
    rw [List.mem_append, List.mem_singleton]
    constructor
    · rintro (h1 | rfl)
      · exact .inl h1
      · exact .inr ⟨h.1, rfl⟩
    · rintro (h1 | ⟨_, rfl⟩)
      · exact .inl h1
      · exact .inr rfl
  · rename_i h
    constructor
    · exact .inl
    · rintro (h1 | ⟨h1, rfl⟩)
      · exact h1
      · by_cases hb : b ∈ M
        · exact hb
        · exact absurd ⟨h1, hb⟩ h
theorem lim1_nodup {U M : List Int} (h : M.Nodup) (a : Int) : (lim1 U M a).Nodup := by
  unfold lim1
  split
  · rename_i hh
    rw [List.nodup_append]
    refine ⟨h, by simp, fun x hx y hy => ?_⟩
    rw [List.mem_singleton] at hy
    subst hy
    exact fun e => hh.2 (e ▸ hx)
  · exact h
theorem limAll (U : List Int) : ∀ (l M : List Int), (∀ b, b ∈ l.foldl (lim1 U) M ↔ b ∈ M ∨ (b ∈ U ∧ b ∈ l)) ∧ (M.Nodup → (l.foldl (lim1 U) M).Nodup)
  | [], M => ⟨fun b => by simp, id⟩
  | a :: l, M => by
    obtain ⟨h1, h2⟩ := limAll U l (lim1 U M a)
    refine ⟨fun b => ?_, fun h => h2 (lim1_nodup h a)⟩
    rw [List.foldl_cons, h1, lim1_mem, List.mem_cons]
    constructor
    · rintro ((h | ⟨h, rfl⟩) | ⟨h, h'⟩)
      · exact .inl h
      · exact .inr ⟨h, .inl rfl⟩
      · exact .inr ⟨h, .inr h'⟩
    · rintro (h | ⟨h, rfl | h'⟩)
      · exact .inl (.inl h)
      · exact .inl (.inr ⟨h, rfl⟩)
      · exact .inr ⟨h, h'⟩
theorem OnceI.later (h : OnceI f O Z U M) (l : List Int) : OnceI f (turnF true f O Z l).2.1 (turnF true f O Z l).2.2 (U.filter fun a => !decide (a ∈ l)) (l.foldl (lim1 U) M) := by
  obtain ⟨h1, h2, h3⟩ := laterAll f l (0, O, Z) h.len h.sub
  obtain ⟨g1, g2⟩ := limAll U l M
  refine ⟨fun a => ?_, fun a => ?_, h.nU.filter _, g2 h.nM, h3, ?_⟩
  · rw [List.mem_filter, h.mU]
    unfold turnF
    rw [h1]
    simp
  · rw [g1, h.mM, h.mU]
    unfold turnF
    rw [h2]
    simp
  · have : ∀ (l : List Int) (s : Nat × List Bool × List Bool), s.2.2.length = s.2.1.length → (l.foldl (turn1 true f) s).2.2.length = (l.foldl (turn1 true f) s).2.1.length := by
      intro l
      induction l with
      | nil => intro s h; exact h
      | cons x l ih =>
        intro s h
        rw [List.foldl_cons]
        apply ih
        unfold turn1
        split
        · simpa using h
        · exact h
    exact this l (0, O, Z) h.len
theorem OnceI.settle (h : OnceI f O Z U M) : OnceI f (clrN O (trues Z 0)) (clrN Z (trues Z 0)) U [] := by
  have hz : ∀ j, has (clrN Z (trues Z 0)) j = false := fun j => by
    by_cases hx : has (clrN Z (trues Z 0)) j = true
    · obtain ⟨i, _, _, hg⟩ := has_nat hx
      rw [clrN_get] at hg
      simp [mem_trues] at hg
    · simpa using hx
  have ho : ∀ j, has (clrN O (trues Z 0)) j = (has O j && !has Z j) := fun j => by
    by_cases hj : 0 ≤ j
    · obtain ⟨i, rfl⟩ : ∃ i : Nat, j = (i : Int) := ⟨j.toNat, by omega⟩
      rw [has_get, has_get, has_get, clrN_get]
      congr 2
      by_cases hb : Z.getD i false = true
      · rw [hb, decide_eq_true (mem_trues.2 hb)]
      · rw [decide_eq_false (fun e => hb (mem_trues.1 e))]
        simpa using (Bool.not_eq_true _ ▸ hb : Z.getD i false = false).symm
    · rw [has_neg (by omega), has_neg (by omega)]
      rfl
  refine ⟨fun a => ?_, fun a => by simp [limB, hz], h.nU, List.nodup_nil, (fun j hj => by rw [hz] at hj; cases hj), by rw [clrN_length, clrN_length]; exact h.len⟩
  rw [h.mU]
  unfold takenB
  rw [ho, hz]
  cases decide ((f : Int) ≤ a) <;> cases has O (a - f) <;> cases has Z (a - f) <;> simp
theorem nodup_sorted {l : List Nat} (h : l.Pairwise (· < ·)) (f : Nat) : (l.map fun i => ((i + f : Nat) : Int)).Nodup := by
  rw [List.nodup_iff_pairwise_ne] at *
  exact (h.imp fun {a b} hab => by omega).map _ fun a b hab => hab
theorem OnceI.lenM (h : OnceI f O Z U M) : M.length = Z.count true := by
  rw [← trues_length Z 0]
  have hp : M.Perm ((trues Z 0).map fun i => ((i + f : Nat) : Int)) := by
    refine (List.perm_ext_iff_of_nodup h.nM (nodup_sorted (trues_sorted Z 0) f)).2 fun a => ?_
    rw [h.mM, List.mem_map]
    constructor
    · intro ha
      unfold limB at ha
      rw [Bool.and_eq_true, decide_eq_true_eq] at ha
      obtain ⟨i, hi, _, hg⟩ := has_nat ha.2
      exact ⟨i, mem_trues.2 hg, by omega⟩
    · rintro ⟨i, hi, rfl⟩
      unfold limB
      rw [Bool.and_eq_true, decide_eq_true_eq]
      refine ⟨by omega, ?_⟩
      rw [show ((i + f : Nat) : Int) - (f : Int) = (i : Int) by omega, has_get]
      exact mem_trues.1 hi
  rw [hp.length_eq, List.length_map]
theorem mem_outs {i : Nat} : i ∈ outs O Z ↔ O.getD i false = true ∧ Z.getD i false = false := by
  unfold outs
  rw [List.mem_filter, mem_trues]
  simp
theorem OnceI.lenU (h : OnceI f O Z U M) : U.length = (outs O Z).length := by
  have hp : U.Perm ((outs O Z).map fun i => ((i + f : Nat) : Int)) := by
    refine (List.perm_ext_iff_of_nodup h.nU (nodup_sorted ((trues_sorted O 0).filter _) f)).2 fun a => ?_
    rw [h.mU, List.mem_map]
    constructor
    · intro ha
      obtain ⟨h1, h2, h3⟩ := taken_has ha
      obtain ⟨i, hi, _, hg⟩ := has_nat h2
      rw [hi, has_get] at h3
      exact ⟨i, mem_outs.2 ⟨hg, h3⟩, by omega⟩
    · rintro ⟨i, hi, rfl⟩
      obtain ⟨h1, h2⟩ := mem_outs.1 hi
      refine taken_of ⟨by omega, ?_, ?_⟩
      · rw [show ((i + f : Nat) : Int) - (f : Int) = (i : Int) by omega, has_get]
        exact h1
      · rw [show ((i + f : Nat) : Int) - (f : Int) = (i : Int) by omega, has_get]
        exact h2
  rw [hp.length_eq, List.length_map]
theorem OnceI.all (h : OnceI f O Z U M) : O.count true = U.length + M.length := by
  rw [h.lenU, h.lenM, ← trues_length O 0, ← trues_length Z 0]
  have e : trues Z 0 = (trues O 0).filter fun i => Z.getD i false := by
    refine sorted_ext (trues_sorted Z 0) ((trues_sorted O 0).filter _) fun x => ?_
    rw [List.mem_filter, mem_trues, mem_trues]
    constructor
    · intro hx
      refine ⟨?_, hx⟩
      have := h.sub (x : Int)
      rw [has_get, has_get] at this
      exact this hx
    · exact fun hx => hx.2
  rw [e]
  unfold outs
  have := List.length_eq_countP_add_countP (fun i => Z.getD i false) (l := trues O 0)
  rw [List.countP_eq_length_filter, List.countP_eq_length_filter] at this
  rw [this, Nat.add_comm]
  congr 3
  funext i
  cases Z.getD i false <;> simp
/-- The places that Take gives, as numbers. -/
def gotL (f : Nat) (L : List Nat) : List Int := L.map fun i => ((i + f : Nat) : Int)
theorem OnceI.take (h : OnceI f O Z U M) (n : Int) : OnceI f (setN O (leastF O n)) Z (U ++ gotL f (leastF O n)) M ∧ (∀ k (hk : k < (gotL f (leastF O n)).length), (gotL f (leastF O n))[k] ∉ U ∧ (gotL f (leastF O n))[k] ∉ M ∧ (gotL f (leastF O n))[k] ∉ (gotL f (leastF O n)).take k ∧ (f : Int) ≤ (gotL f (leastF O n))[k] ∧ (gotL f (leastF O n))[k] < (f : Int) + (O.length : Int)) := by
  have hlt : ∀ i ∈ leastF O n, i < O.length ∧ O.getD i false = false := fun i hi => leastF_lt hi
  have hsort : (leastF O n).Pairwise (· < ·) := by
    unfold leastF
    split
    · exact List.Pairwise.nil
    · exact (free_sorted O 0).sublist (List.take_sublist _ _)
  generalize leastF O n = L at *
  have hnd : (gotL f L).Nodup := nodup_sorted hsort f
  have hmem : ∀ a, a ∈ gotL f L ↔ ∃ i ∈ L, ((i + f : Nat) : Int) = a := fun a => List.mem_map
  have hU : ∀ a ∈ gotL f L, a ∉ U ∧ a ∉ M ∧ (f : Int) ≤ a ∧ a < (f : Int) + (O.length : Int) := by
    intro a ha
    obtain ⟨i, hi, rfl⟩ := (hmem a).1 ha
    obtain ⟨h1, h2⟩ := hlt i hi
    refine ⟨fun hx => ?_, fun hx => ?_, by omega, by omega⟩
    · obtain ⟨_, h3, _⟩ := taken_has ((h.mU _).1 hx)
      rw [show ((i + f : Nat) : Int) - (f : Int) = (i : Int) by omega, has_get, h2] at h3
      cases h3
    · have h3 := (h.mM _).1 hx
      unfold limB at h3
      rw [Bool.and_eq_true] at h3
      have h4 := h.sub _ h3.2
      rw [show ((i + f : Nat) : Int) - (f : Int) = (i : Int) by omega, has_get, h2] at h4
      cases h4
  have hset : ∀ j, has (setN O L) j = true ↔ has O j = true ∨ ∃ i ∈ L, (i : Int) = j := fun j => by
    by_cases hj : 0 ≤ j
    · obtain ⟨x, rfl⟩ : ∃ x : Nat, j = (x : Int) := ⟨j.toNat, by omega⟩
      rw [has_get, has_get]
      by_cases hx : x < O.length
      · rw [setN_get L O x hx, Bool.or_eq_true, decide_eq_true_eq]
        constructor
        · rintro (h | h)
          · exact .inl h
          · exact .inr ⟨x, h, rfl⟩
        · rintro (h | ⟨i, h, e⟩)
          · exact .inl h
          · obtain rfl : i = x := by omega
            exact .inr h
      · have e1 : (setN O L).getD x false = false := by simp [List.getD, List.getElem?_eq_none (show (setN O L).length ≤ x by rw [setN_length]; omega)]
        have e2 : O.getD x false = false := by simp [List.getD, List.getElem?_eq_none (show O.length ≤ x by omega)]
        rw [e1, e2]
        constructor
        · intro h
          cases h
        · rintro (h | ⟨i, h, e⟩)
          · cases h
          · have := (hlt i h).1
            omega
    · rw [has_neg (by omega), has_neg (by omega)]
      constructor
      · intro h
        cases h
      · rintro (h | ⟨i, h, e⟩)
        · cases h
        · omega
  refine ⟨⟨fun a => ?_, h.mM, ?_, h.nM, fun j hj => (hset j).2 (.inl (h.sub j hj)), by rw [setN_length]; exact h.len⟩, fun k hk => ?_⟩
  · rw [List.mem_append, h.mU, hmem]
    constructor
    · rintro (h1 | ⟨i, hi, rfl⟩)
      · obtain ⟨g1, g2, g3⟩ := taken_has h1
        exact taken_of ⟨g1, (hset _).2 (.inl g2), g3⟩
      · refine taken_of ⟨by omega, (hset _).2 (.inr ⟨i, hi, by omega⟩), ?_⟩
        by_cases hz : has Z (((i + f : Nat) : Int) - (f : Int)) = true
        · have h4 := h.sub _ hz
          rw [show ((i + f : Nat) : Int) - (f : Int) = (i : Int) by omega, has_get, (hlt i hi).2] at h4
          cases h4
        · simpa using hz
    · intro h1
      obtain ⟨g1, g2, g3⟩ := taken_has h1
      rcases (hset _).1 g2 with g | ⟨i, hi, e⟩
      · exact .inl (taken_of ⟨g1, g, g3⟩)
      · exact .inr ⟨i, hi, by omega⟩
  · rw [List.nodup_append]
    exact ⟨h.nU, hnd, fun x hx y hy e => (hU y hy).1 (e ▸ hx)⟩
  · obtain ⟨g1, g2, g3, g4⟩ := hU _ (List.getElem_mem hk)
    refine ⟨g1, g2, fun hx => ?_, g3, g4⟩
    obtain ⟨j, hj, e⟩ := List.mem_iff_getElem.1 hx
    rw [List.getElem_take] at e
    have hj' : j < k := by simp at hj; omega
    have := List.pairwise_iff_getElem.1 (List.nodup_iff_pairwise_ne.1 hnd) j k (by omega) hk hj'
    exact this e
end Bmp
