/- Order: plain: lists of spans in order; there is one for the texts that stand in it. -/
import Derived.Test.YtijinfmokbaahaaOrdQ
set_option linter.unusedVariables false
set_option linter.unusedSimpArgs false
namespace Ord
open Go
abbrev Spn := ByteArray × ByteArray
/-- Does a text stand in one of them? -/
def cov (L : List Spn) (k : ByteArray) : Bool := L.any fun s => inn s.1 s.2 k
/-- In order: none is empty, and between two of them there is room. -/
structure Canon (L : List Spn) : Prop where
  ne : ∀ s ∈ L, emp s.1 s.2 = false
  apart : L.Pairwise fun s t => no s.2 = false ∧ lt s.2 t.1 = true
section
variable {L M O D : List Spn} {s u x : Spn} {k a b c : ByteArray}
theorem inn_iff {f t : ByteArray} : inn f t k = true ↔ lt k f = false ∧ (no t = true ∨ lt k t = true) := by
  unfold inn ahd
  simp
theorem inn_no {f t : ByteArray} : inn f t k = false ↔ lt k f = true ∨ (no t = false ∧ lt k t = false) := by
  unfold inn ahd
  cases lt k f <;> cases no t <;> cases lt k t <;> simp
theorem emp_iff {f t : ByteArray} : emp f t = false ↔ no t = true ∨ lt f t = true := by
  unfold emp ahd
  cases no t <;> cases lt f t <;> simp
theorem no_z : no z = true := no_iff.2 rfl
theorem lt_ne (h : lt a b = true) : no b = false := by
  cases hb : no b
  · rfl
  · rw [no_iff.1 hb, z_le] at h
    cases h
theorem cov_nil : cov [] k = false := rfl
theorem cov_cons : cov (s :: L) k = (inn s.1 s.2 k || cov L k) := rfl
theorem cov_app : cov (L ++ M) k = (cov L k || cov M k) := List.any_append
theorem cov_one : cov [s] k = inn s.1 s.2 k := by simp [cov]
theorem cov_iff : cov L k = true ↔ ∃ s ∈ L, inn s.1 s.2 k = true := List.any_eq_true
theorem cov_no : cov L k = false ↔ ∀ s ∈ L, inn s.1 s.2 k = false := by
  rw [← Bool.not_eq_true, cov_iff]
  simp
theorem cov_perm (h : L.Perm M) : cov L k = cov M k := by
  rw [Bool.eq_iff_iff, cov_iff, cov_iff]
  exact ⟨fun ⟨s, hs, hk⟩ => ⟨s, h.mem_iff.1 hs, hk⟩, fun ⟨s, hs, hk⟩ => ⟨s, h.mem_iff.2 hs, hk⟩⟩
theorem cov_full : cov (L.filter fun s => !emp s.1 s.2) k = cov L k := by
  rw [Bool.eq_iff_iff, cov_iff, cov_iff]
  constructor
  · rintro ⟨s, hs, hk⟩
    exact ⟨s, (List.mem_filter.1 hs).1, hk⟩
  · rintro ⟨s, hs, hk⟩
    refine ⟨s, List.mem_filter.2 ⟨hs, ?_⟩, hk⟩
    cases h : emp s.1 s.2
    · rfl
    · rw [inn_emp h] at hk
      cases hk
theorem Canon.nil : Canon [] := ⟨by simp, .nil⟩
theorem Canon.head (h : Canon (s :: L)) : emp s.1 s.2 = false := h.ne s (by simp)
theorem Canon.tail (h : Canon (s :: L)) : Canon L := ⟨fun x hx => h.ne x (by simp [hx]), (List.pairwise_cons.1 h.apart).2⟩
/-- What stands in the rest stands behind the first's end. -/
theorem Canon.behind (h : Canon (s :: L)) (hk : cov L k = true) : no s.2 = false ∧ lt s.2 k = true := by
  obtain ⟨x, hx, hi⟩ := cov_iff.1 hk
  obtain ⟨h1, h2⟩ := (List.pairwise_cons.1 h.apart).1 x hx
  exact ⟨h1, lt_of_lt_le h2 (inn_iff.1 hi).1⟩
theorem Canon.lo (h : Canon (s :: L)) (hk : cov (s :: L) k = true) : lt k s.1 = false := by
  rw [cov_cons, Bool.or_eq_true] at hk
  rcases hk with hk | hk
  · exact (inn_iff.1 hk).1
  · obtain ⟨h1, h2⟩ := h.behind hk
    rcases emp_iff.1 h.head with h3 | h3
    · rw [h1] at h3; cases h3
    · exact lt_asymm (lt_trans h3 h2)
theorem Canon.rest (h : Canon (s :: L)) : cov L k = (cov (s :: L) k && !inn s.1 s.2 k) := by
  rw [cov_cons]
  cases hk : cov L k
  · simp
  · obtain ⟨h1, h2⟩ := h.behind hk
    rw [inn_no.2 (.inr ⟨h1, lt_asymm h2⟩)]
    rfl
theorem Canon.inHead (h : Canon (s :: L)) : cov (s :: L) s.1 = true := by
  rw [cov_cons, inn_from, h.head]
  rfl
theorem Canon.atEnd (h : Canon (s :: L)) (hn : no s.2 = false) : cov (s :: L) s.2 = false := by
  rw [cov_cons, inn_no.2 (.inr ⟨hn, lt_irr _⟩), Bool.false_or]
  cases hk : cov L s.2
  · rfl
  · have := (h.behind hk).2
    rw [lt_irr] at this
    cases this
theorem Canon.endLe (h : Canon (s :: L)) (h' : Canon (u :: M)) (e : s.1 = u.1) (hc : ∀ k, cov (s :: L) k = cov (u :: M) k) (hn : no s.2 = false) : no u.2 = false ∧ lt s.2 u.2 = false := by
  have h1 := h.atEnd hn
  rw [hc, cov_cons, Bool.or_eq_false_iff] at h1
  rcases inn_no.1 h1.1 with h2 | h2
  · rcases emp_iff.1 h.head with h3 | h3
    · rw [hn] at h3; cases h3
    · rw [← e, lt_asymm h3] at h2
      cases h2
  · exact h2
/-- There is one list in order in which just these texts stand. -/
theorem canon_eq : ∀ {L M : List Spn}, Canon L → Canon M → (∀ k, cov L k = cov M k) → L = M
  | [], [], _, _, _ => rfl
  | [], u :: M, _, h', hc => by
    have := hc u.1
    rw [h'.inHead] at this
    cases this
  | s :: L, [], h, _, hc => by
    have := hc s.1
    rw [h.inHead] at this
    cases this
  | s :: L, u :: M, h, h', hc => by
    have e1 : s.1 = u.1 := lt_tri (h'.lo (by rw [← hc]; exact h.inHead)) (h.lo (by rw [hc]; exact h'.inHead))
    have e2 : s.2 = u.2 := by
      cases hs : no s.2
      · obtain ⟨h1, h2⟩ := h.endLe h' e1 hc hs
        exact lt_tri h2 (h'.endLe h e1.symm (fun k => (hc k).symm) h1).2
      · cases hu : no u.2
        · have := (h'.endLe h e1.symm (fun k => (hc k).symm) hu).1
          rw [hs] at this
          cases this
        · rw [no_iff.1 hs, no_iff.1 hu]
    have e : s = u := Prod.ext e1 e2
    subst e
    rw [canon_eq h.tail h'.tail fun k => by rw [h.rest, h'.rest, hc]]
/-- Spans put one into the other, as they come, rising. -/
structure Mrg (D O : List Spn) : Prop where
  canon : Canon O
  cov : ∀ k, cov O k = cov D k
  from_ : ∀ x ∈ O, ∃ y ∈ D, x.1 = y.1
  len : O.length ≤ D.length
theorem Mrg.nil : Mrg [] [] := ⟨Canon.nil, fun _ => rfl, by simp, Nat.le_refl _⟩
theorem pair_snoc {α : Type} {R : α → α → Prop} {l : List α} {x : α} : (l ++ [x]).Pairwise R ↔ l.Pairwise R ∧ ∀ a ∈ l, R a x := by
  rw [List.pairwise_append]
  simp
theorem Mrg.first (he : emp s.1 s.2 = false) : Mrg [s] [s] := ⟨⟨by simpa using he, by simp⟩, fun _ => rfl, by simp, Nat.le_refl _⟩
theorem Mrg.addNil (h : Mrg D []) (he : emp s.1 s.2 = false) : Mrg (D ++ [s]) [s] :=
  ⟨⟨by simpa using he, by simp⟩, fun k => by rw [cov_app, ← h.cov]; rfl, by simp, by simp⟩
theorem Mrg.add (h : Mrg D (O ++ [u])) (he : emp s.1 s.2 = false) (h1 : no u.2 = false) (h2 : lt u.2 s.1 = true) : Mrg (D ++ [s]) (O ++ [u] ++ [s]) := by
  refine ⟨⟨?_, pair_snoc.2 ⟨h.canon.apart, ?_⟩⟩, fun k => by rw [cov_app (L := O ++ [u]), cov_app (L := D), h.cov], ?_, by have := h.len; simp at this ⊢; omega⟩
  · intro x hx
    rcases List.mem_append.1 hx with hx | hx
    · exact h.canon.ne x hx
    · rw [List.mem_singleton.1 hx]; exact he
  · intro x hx
    rcases List.mem_append.1 hx with hx | hx
    · obtain ⟨h3, h4⟩ := (pair_snoc.1 h.canon.apart).2 x hx
      refine ⟨h3, lt_trans h4 (lt_trans ?_ h2)⟩
      rcases emp_iff.1 (h.canon.ne u (by simp)) with h5 | h5
      · rw [h1] at h5; cases h5
      · exact h5
    · rw [List.mem_singleton.1 hx]; exact ⟨h1, h2⟩
  · intro x hx
    rcases List.mem_append.1 hx with hx | hx
    · obtain ⟨y, hy, e⟩ := h.from_ x hx
      exact ⟨y, by simp [hy], e⟩
    · rw [List.mem_singleton.1 hx]; exact ⟨s, by simp, rfl⟩
theorem inn_hi {f t f' t' : ByteArray} (h1 : lt f' f = false) (h2 : no t = true ∨ lt t f' = false) : inn f (hi t t') k = (inn f t k || inn f' t' k) := by
  rw [Bool.eq_iff_iff, Bool.or_eq_true, inn_iff, inn_iff, inn_iff]
  unfold hi
  cases ht : no t
  · cases ht' : no t'
    · simp only [Bool.or_self, Bool.false_eq_true, if_false, lt_top, Bool.or_eq_true, false_or]
      have hn : no (top t t') = false := by unfold top; split <;> assumption
      rw [hn]
      simp only [Bool.false_eq_true, false_or]
      constructor
      · rintro ⟨h3, h4 | h4⟩
        · exact .inl ⟨h3, h4⟩
        · cases h5 : lt k t
          · refine .inr ⟨?_, h4⟩
            rcases h2 with h2 | h2
            · rw [ht] at h2; cases h2
            · exact le_trans h2 h5
          · exact .inl ⟨h3, rfl⟩
      · rintro (⟨h3, h4⟩ | ⟨h3, h4⟩)
        · exact ⟨h3, .inl h4⟩
        · exact ⟨le_trans h1 h3, .inr h4⟩
    · simp only [Bool.or_true, if_true, no_z, true_or, and_true, Bool.false_eq_true, false_or]
      constructor
      · intro h3
        cases h5 : lt k t
        · refine .inr ?_
          rcases h2 with h2 | h2
          · rw [ht] at h2; cases h2
          · exact le_trans h2 h5
        · exact .inl ⟨h3, rfl⟩
      · rintro (⟨h3, _⟩ | h3)
        · exact h3
        · exact le_trans h1 h3
  · simp only [Bool.true_or, if_true, no_z, true_or, and_true]
    constructor
    · exact fun h3 => .inl h3
    · rintro (h3 | ⟨h3, _⟩)
      · exact h3
      · exact le_trans h1 h3
theorem Mrg.fuse (h : Mrg D (O ++ [u])) (hs : ∀ y ∈ D, lt s.1 y.1 = false) (h2 : no u.2 = true ∨ lt u.2 s.1 = false) : Mrg (D ++ [s]) (O ++ [(u.1, hi u.2 s.2)]) := by
  have h1 : lt s.1 u.1 = false := by
    obtain ⟨y, hy, e⟩ := h.from_ u (by simp)
    rw [e]
    exact hs y hy
  have hi' : ∀ k, inn u.1 (hi u.2 s.2) k = (inn u.1 u.2 k || inn s.1 s.2 k) := fun k => inn_hi h1 h2
  have hue := h.canon.ne u (by simp)
  refine ⟨⟨?_, pair_snoc.2 ⟨(pair_snoc.1 h.canon.apart).1, (pair_snoc.1 h.canon.apart).2⟩⟩, ?_, ?_, by have := h.len; simp at this ⊢; omega⟩
  · intro x hx
    rcases List.mem_append.1 hx with hx | hx
    · exact h.canon.ne x (by simp [hx])
    · rw [List.mem_singleton.1 hx]
      have := hi' u.1
      rw [inn_from, inn_from, hue] at this
      simpa using this
  · intro k
    rw [cov_app (L := O), cov_one, cov_app (L := D), cov_one, ← h.cov, cov_app (L := O), cov_one, hi', Bool.or_assoc]
  · intro x hx
    rcases List.mem_append.1 hx with hx | hx
    · obtain ⟨y, hy, e⟩ := h.from_ x (by simp [hx])
      exact ⟨y, by simp [hy], e⟩
    · rw [List.mem_singleton.1 hx]
      obtain ⟨y, hy, e⟩ := h.from_ u (by simp)
      exact ⟨y, by simp [hy], e⟩
/-- What is left of a span without another one. -/
def cutL (s x : Spn) : List Spn :=
  if emp (top x.1 s.1) (low x.2 s.2) then [x]
  else (if lt x.1 (top x.1 s.1) then [(x.1, top x.1 s.1)] else []) ++ (if !no (low x.2 s.2) && ahd (low x.2 s.2) x.2 then [(low x.2 s.2, x.2)] else [])
theorem ahd_iff {t : ByteArray} : ahd k t = true ↔ no t = true ∨ lt k t = true := by
  unfold ahd
  simp
theorem cov_cut : cov (cutL s x) k = (inn x.1 x.2 k && !inn s.1 s.2 k) := by
  have hm : inn (top x.1 s.1) (low x.2 s.2) k = (inn x.1 x.2 k && inn s.1 s.2 k) := inn_meet _ _ _ _ _
  have e : (inn x.1 x.2 k && !inn s.1 s.2 k) = (inn x.1 x.2 k && !inn (top x.1 s.1) (low x.2 s.2) k) := by
    rw [hm]
    cases inn x.1 x.2 k <;> cases inn s.1 s.2 k <;> rfl
  rw [e]
  unfold cutL
  split
  · rename_i h
    rw [cov_one, inn_emp h]
    simp
  · rename_i h
    have h' : emp (top x.1 s.1) (low x.2 s.2) = false := by simpa using h
    have hx1 : lt (top x.1 s.1) x.1 = false := by
      unfold top
      split
      · exact lt_irr _
      · rename_i h2; exact lt_asymm (by simpa using h2)
    have hx2 : ∀ k, ahd k (low x.2 s.2) = true → ahd k x.2 = true := fun k hk => by
      rw [ahd_low, Bool.and_eq_true] at hk
      exact hk.1
    clear e hm h
    generalize top x.1 s.1 = f at *
    generalize low x.2 s.2 = t at *
    have hf : ahd f x.2 = true := hx2 f (ahd_iff.2 (emp_iff.1 h'))
    have hmono : ∀ a b : ByteArray, lt a b = true → ahd b x.2 = true → ahd a x.2 = true := fun a b h1 h2 => by
      rcases ahd_iff.1 h2 with h3 | h3
      · exact ahd_iff.2 (.inl h3)
      · exact ahd_iff.2 (.inr (lt_trans h1 h3))
    have hR : (inn x.1 x.2 k && !inn f t k) = true ↔ (lt k x.1 = false ∧ ahd k x.2 = true) ∧ (lt k f = true ∨ (no t = false ∧ lt k t = false)) := by
      rw [Bool.and_eq_true, Bool.not_eq_true', inn_no, inn_iff, ← ahd_iff]
    rw [cov_app, Bool.eq_iff_iff, Bool.or_eq_true, hR]
    constructor
    · rintro (h1 | h1)
      · split at h1
        · rename_i hlt
          rw [cov_one, inn_iff] at h1
          obtain ⟨h2, h3⟩ := h1
          have h3 : lt k f = true := by
            rcases h3 with h3 | h3
            · rw [lt_ne hlt] at h3; cases h3
            · exact h3
          exact ⟨⟨h2, hmono k f h3 hf⟩, .inl h3⟩
        · cases h1
      · split at h1
        · rename_i hc
          rw [Bool.and_eq_true, Bool.not_eq_true'] at hc
          rw [cov_one, inn_iff, ← ahd_iff] at h1
          obtain ⟨h2, h3⟩ := h1
          have hft : lt f t = true := by
            rcases emp_iff.1 h' with h4 | h4
            · rw [hc.1] at h4; cases h4
            · exact h4
          exact ⟨⟨le_trans (lt_asymm (lt_of_le_lt hx1 hft)) h2, h3⟩, .inr ⟨hc.1, h2⟩⟩
        · cases h1
    · rintro ⟨⟨h1, h2⟩, h3 | ⟨h3, h4⟩⟩
      · left
        have hlt : lt x.1 f = true := lt_of_le_lt h1 h3
        rw [if_pos hlt, cov_one, inn_iff]
        exact ⟨h1, .inr h3⟩
      · right
        have hc : (!no t && ahd t x.2) = true := by
          rw [h3]
          rcases ahd_iff.1 h2 with h5 | h5
          · exact ahd_iff.2 (.inl h5)
          · exact ahd_iff.2 (.inr (lt_of_le_lt h4 h5))
        rw [if_pos hc, cov_one, inn_iff, ← ahd_iff]
        exact ⟨h4, h2⟩
/-- What the pieces of a span are like: not empty, in it, apart. -/
theorem cut_piece (hx : emp x.1 x.2 = false) : (∀ y ∈ cutL s x, emp y.1 y.2 = false ∧ lt y.1 x.1 = false ∧ (no x.2 = false → no y.2 = false ∧ lt x.2 y.2 = false)) ∧ (cutL s x).Pairwise (fun s t => no s.2 = false ∧ lt s.2 t.1 = true) ∧ (cutL s x).length ≤ 2 := by
  unfold cutL
  split
  · refine ⟨fun y hy => ?_, by simp, by simp⟩
    rw [List.mem_singleton.1 hy]
    exact ⟨hx, lt_irr _, fun h => ⟨h, lt_irr _⟩⟩
  · rename_i h
    have h' : emp (top x.1 s.1) (low x.2 s.2) = false := by simpa using h
    have hx1 : lt (top x.1 s.1) x.1 = false := by
      unfold top
      split
      · exact lt_irr _
      · rename_i h2; exact lt_asymm (by simpa using h2)
    have hx2 : ∀ k, ahd k (low x.2 s.2) = true → ahd k x.2 = true := fun k hk => by
      rw [ahd_low, Bool.and_eq_true] at hk
      exact hk.1
    clear h
    generalize top x.1 s.1 = f at *
    generalize low x.2 s.2 = t at *
    have hf : ahd f x.2 = true := hx2 f (ahd_iff.2 (emp_iff.1 h'))
    refine ⟨?_, ?_, ?_⟩
    · intro y hy
      rcases List.mem_append.1 hy with hy | hy
      · split at hy
        · rename_i hlt
          rw [List.mem_singleton.1 hy]
          refine ⟨emp_iff.2 (.inr hlt), lt_irr _, fun hn => ⟨lt_ne hlt, ?_⟩⟩
          rcases ahd_iff.1 hf with h3 | h3
          · rw [hn] at h3; cases h3
          · exact lt_asymm h3
        · cases hy
      · split at hy
        · rename_i hc
          rw [Bool.and_eq_true, Bool.not_eq_true'] at hc
          rw [List.mem_singleton.1 hy]
          have hft : lt f t = true := by
            rcases emp_iff.1 h' with h4 | h4
            · rw [hc.1] at h4; cases h4
            · exact h4
          exact ⟨emp_iff.2 (ahd_iff.1 hc.2), lt_asymm (lt_of_le_lt hx1 hft), fun hn => ⟨hn, lt_irr _⟩⟩
        · cases hy
    · split
      · rename_i hlt
        split
        · rename_i hc
          rw [Bool.and_eq_true, Bool.not_eq_true'] at hc
          have hft : lt f t = true := by
            rcases emp_iff.1 h' with h4 | h4
            · rw [hc.1] at h4; cases h4
            · exact h4
          simp [lt_ne hlt, hft]
        · simp
      · split <;> simp
    · split <;> split <;> simp
/-- A list without a span. -/
def without (s : Spn) (L : List Spn) : List Spn := L.flatMap (cutL s)
theorem without_snoc : without s (D ++ [x]) = without s D ++ cutL s x := by simp [without]
theorem cov_without : ∀ L : List Spn, cov (without s L) k = (cov L k && !inn s.1 s.2 k)
  | [] => rfl
  | x :: L => by
    have e : without s (x :: L) = cutL s x ++ without s L := List.flatMap_cons
    rw [e, cov_app, cov_cut, cov_without L, cov_cons, Bool.and_or_distrib_right]
theorem Canon.less (s : Spn) : ∀ {L : List Spn}, Canon L → Canon (without s L)
  | [], _ => Canon.nil
  | x :: L, h => by
    have e : without s (x :: L) = cutL s x ++ without s L := List.flatMap_cons
    obtain ⟨h1, h2, _⟩ := cut_piece (s := s) h.head
    have ih := Canon.less s h.tail
    rw [e]
    refine ⟨fun y hy => ?_, List.pairwise_append.2 ⟨h2, ih.apart, fun y hy v hv => ?_⟩⟩
    · rcases List.mem_append.1 hy with hy | hy
      · exact (h1 y hy).1
      · exact ih.ne y hy
    · obtain ⟨w, hw, hv⟩ := List.mem_flatMap.1 hv
      obtain ⟨h3, h4⟩ := (List.pairwise_cons.1 h.apart).1 w hw
      obtain ⟨h5, h6⟩ := (h1 y hy).2.2 h3
      have h7 := ((cut_piece (s := s) (h.ne w (by simp [hw]))).1 v hv).2.1
      exact ⟨h5, lt_of_lt_le (lt_of_le_lt h6 h4) h7⟩
theorem cut_len (hx : emp x.1 x.2 = false) : (cutL s x).length ≤ 1 + (if inn x.1 x.2 s.1 then 1 else 0) := by
  unfold cutL
  split
  · simp
  · rename_i h
    have h' : emp (top x.1 s.1) (low x.2 s.2) = false := by simpa using h
    by_cases hlt : lt x.1 (top x.1 s.1) = true
    · have ht : top x.1 s.1 = s.1 := by
        unfold top at hlt ⊢
        split
        · rename_i h2
          rw [if_pos h2, lt_irr] at hlt
          cases hlt
        · rfl
      have hi : inn x.1 x.2 s.1 = true := by
        rw [ht] at hlt h'
        have h3 := ahd_iff.2 (emp_iff.1 h')
        rw [ahd_low, Bool.and_eq_true] at h3
        exact inn_iff.2 ⟨lt_asymm hlt, ahd_iff.1 h3.1⟩
      rw [if_pos hlt, hi]
      split <;> simp
    · rw [if_neg hlt]
      split <;> split <;> simp
theorem Canon.lessLen (s : Spn) : ∀ {L : List Spn}, Canon L → (without s L).length ≤ L.length + (if cov L s.1 then 1 else 0)
  | [], _ => Nat.zero_le _
  | x :: L, h => by
    have e : without s (x :: L) = cutL s x ++ without s L := List.flatMap_cons
    have h1 := cut_len (s := s) h.head
    have h2 := Canon.lessLen s h.tail
    rw [e, List.length_append, List.length_cons, cov_cons]
    cases hc : cov L s.1
    · rw [hc] at h2
      cases hi : inn x.1 x.2 s.1
      · rw [hi] at h1
        simp at h1 h2 ⊢
        omega
      · rw [hi] at h1
        simp at h1 h2 ⊢
        omega
    · obtain ⟨h3, h4⟩ := h.behind hc
      have hi : inn x.1 x.2 s.1 = false := inn_no.2 (.inr ⟨h3, lt_asymm h4⟩)
      rw [hc] at h2
      rw [hi] at h1 ⊢
      simp at h1 h2 ⊢
      omega
theorem without_take (i : Nat) : (without s (L.take i)).length ≤ (without s L).length := by
  have e : without s L = without s (L.take i) ++ without s (L.drop i) := by
    unfold without
    rw [← List.flatMap_append, List.take_append_drop]
  rw [e, List.length_append]
  omega
end
end Ord
