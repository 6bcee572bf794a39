/- Order: plain: the document's lists, from end to end. -/
import Derived.Test.YtijinfmokbaahaaUniP
set_option linter.unusedVariables false
set_option linter.unusedSimpArgs false
namespace Ord
open Go
/-- Texts rising, each once, the empty one first; T are among them. -/
structure Rise (T e : List ByteArray) : Prop where
  up : e.Pairwise fun a b => lt a b = true
  zin : z ∈ e
  has : ∀ t ∈ T, t ∈ e
  len : e.length ≤ 1 + T.length
section
variable {T e : List ByteArray} {D O : List Spn} {i m : Nat} {a b k t x : ByteArray} {P : ByteArray → Bool} {o : Bool}
theorem Rise.start : Rise [] [z] := ⟨by simp, by simp, by simp, by simp⟩
theorem Rise.first (h : Rise T e) : e[0]? = some z := by
  have hu := h.up
  have hz := h.zin
  cases e with
  | nil => cases hz
  | cons a e =>
    rcases List.mem_cons.1 hz with rfl | hz
    · rfl
    · have := (List.pairwise_cons.1 hu).1 z hz
      rw [z_le] at this
      cases this
theorem Rise.lt_at (h : Rise T e) {j : Nat} (hij : i < j) (ha : e[i]? = some a) (hb : e[j]? = some b) : lt a b = true := by
  obtain ⟨h1, e1⟩ := List.getElem?_eq_some_iff.1 ha
  obtain ⟨h2, e2⟩ := List.getElem?_eq_some_iff.1 hb
  rw [← e1, ← e2]
  exact List.pairwise_iff_getElem.1 h.up i j h1 h2 hij
theorem Rise.old (h : Rise T e) (hx : x ∈ e) : Rise (T ++ [x]) e := by
  refine ⟨h.up, h.zin, fun t ht => ?_, by have := h.len; simp; omega⟩
  rcases List.mem_append.1 ht with ht | ht
  · exact h.has t ht
  · rw [List.mem_singleton.1 ht]; exact hx
theorem Rise.same (h : Rise T e) (hm : m < e.length) (hx : e[m] = x) : Rise (T ++ [x]) e := h.old (by rw [← hx]; exact List.getElem_mem _)
theorem Rise.new (h : Rise T e) (hm : m ≤ e.length) (hl : ∀ t ∈ e.take m, lt t x = true) (hr : ∀ a, e[m]? = some a → lt x a = true) : Rise (T ++ [x]) (e.take m ++ [x] ++ e.drop m) := by
  have hup : (e.take m ++ e.drop m).Pairwise fun a b => lt a b = true := by rw [List.take_append_drop]; exact h.up
  obtain ⟨h1, h2, h3⟩ := List.pairwise_append.1 hup
  have h4 : ∀ t ∈ e.drop m, lt x t = true := by
    intro t ht
    obtain ⟨j, hj, rfl⟩ := List.getElem_of_mem ht
    rw [List.getElem_drop]
    have hj' : m + j < e.length := by rw [List.length_drop] at hj; omega
    have hb : e[m + j]? = some e[m + j] := List.getElem?_eq_getElem hj'
    have ha : e[m]? = some e[m] := List.getElem?_eq_getElem (by omega)
    rcases Nat.eq_zero_or_pos j with h0 | h0
    · subst h0; exact hr _ ha
    · exact lt_trans (hr _ ha) (h.lt_at (by omega) ha hb)
  refine ⟨List.pairwise_append.2 ⟨pair_snoc.2 ⟨h1, hl⟩, h2, fun p hp q hq => ?_⟩, ?_, fun t ht => ?_, ?_⟩
  · rcases List.mem_append.1 hp with hp | hp
    · exact h3 p hp q hq
    · rw [List.mem_singleton.1 hp]; exact h4 q hq
  · have := h.zin
    rw [← List.take_append_drop m e] at this
    rcases List.mem_append.1 this with h5 | h5
    · simp [h5]
    · simp [h5]
  · rcases List.mem_append.1 ht with ht | ht
    · have := h.has t ht
      rw [← List.take_append_drop m e] at this
      rcases List.mem_append.1 this with h5 | h5
      · simp [h5]
      · simp [h5]
    · simp [List.mem_singleton.1 ht]
  · have := h.len
    simp
    omega
/-- Between two ends nothing changes. -/
theorem Rise.flat1 (h : Rise T e) (ht : t ∈ e) (ha : e[i]? = some a) (hk : lt k a = false) (hn : ∀ b, e[i + 1]? = some b → lt k b = true) : lt k t = lt a t := by
  obtain ⟨j, hj, rfl⟩ := List.getElem_of_mem ht
  have hb : e[j]? = some e[j] := List.getElem?_eq_getElem hj
  by_cases hij : i < j
  · rw [h.lt_at hij ha hb]
    have hi1 : i + 1 < e.length := by omega
    have hc : e[i + 1]? = some e[i + 1] := List.getElem?_eq_getElem hi1
    by_cases hj1 : i + 1 = j
    · subst hj1; exact hn _ hc
    · exact lt_trans (hn _ hc) (h.lt_at (by omega) hc hb)
  · have : lt a e[j] = false := by
      by_cases hij' : j = i
      · subst hij'
        rw [ha] at hb
        injection hb with hb
        rw [← hb]
        exact lt_irr _
      · exact lt_asymm (h.lt_at (by omega) hb ha)
    rw [this]
    exact le_trans this hk
theorem Rise.flatIn (h : Rise T e) {f : ByteArray} (hf : f ∈ e) (ht : t ∈ e) (ha : e[i]? = some a) (hk : lt k a = false) (hn : ∀ b, e[i + 1]? = some b → lt k b = true) : inn f t k = inn f t a := by
  unfold inn ahd
  rw [h.flat1 hf ha hk hn, h.flat1 ht ha hk hn]
/-- The ends of spans. -/
def tips (D : List Spn) : List ByteArray := (D.map fun s => [s.1, s.2]).flatten
theorem tips_snoc {s : Spn} : tips (D ++ [s]) = tips D ++ [s.1] ++ [s.2] := by simp [tips]
theorem tips_len : (tips D).length = 2 * D.length := by
  unfold tips
  induction D with
  | nil => rfl
  | cons s D ih => simp at ih ⊢; omega
theorem tip1 {s : Spn} (h : s ∈ D) : s.1 ∈ tips D := List.mem_flatten.2 ⟨_, List.mem_map.2 ⟨s, h, rfl⟩, by simp⟩
theorem tip2 {s : Spn} (h : s ∈ D) : s.2 ∈ tips D := List.mem_flatten.2 ⟨_, List.mem_map.2 ⟨s, h, rfl⟩, by simp⟩
def Flat (P : ByteArray → Bool) (e : List ByteArray) : Prop := ∀ i a, e[i]? = some a → ∀ k, lt k a = false → (∀ b, e[i + 1]? = some b → lt k b = true) → P k = P a
theorem flat_cov0 (h : Rise T e) : ∀ D : List Spn, (∀ s ∈ D, s.1 ∈ e ∧ s.2 ∈ e) → Flat (cov D) e
  | [], _ => fun i a ha k hk hn => rfl
  | s :: D, hD => fun i a ha k hk hn => by
    rw [cov_cons, cov_cons, flat_cov0 h D (fun s hs => hD s (by simp [hs])) i a ha k hk hn, h.flatIn (hD s (by simp)).1 (hD s (by simp)).2 ha hk hn]
theorem Rise.flat (h : Rise (tips D) e) : Flat (cov D) e := flat_cov0 h D fun s hs => ⟨h.has _ (tip1 hs), h.has _ (tip2 hs)⟩
theorem Rise.flatM {s : Spn} (h : Rise (tips (D ++ [s])) e) : Flat (fun k => cov D k && !inn s.1 s.2 k) e := fun i a ha k hk hn => by
  have h1 := flat_cov0 h D (fun s hs => ⟨h.has _ (tip1 (by simp [hs])), h.has _ (tip2 (by simp [hs]))⟩) i a ha k hk hn
  have h2 := h.flatIn (h.has _ (tip1 (s := s) (by simp))) (h.has _ (tip2 (s := s) (by simp))) ha hk hn
  show (cov D k && !inn s.1 s.2 k) = (cov D a && !inn s.1 s.2 a)
  rw [h1, h2]
/-- The document's list under way: i ends are done. -/
structure Scn (P : ByteArray → Bool) (e : List ByteArray) (i : Nat) (o : Bool) (O : List Spn) : Prop where
  canon : Canon O
  cov : ∀ k, (∀ a, e[i]? = some a → lt k a = true) → cov O k = P k
  opn : o = true → ∃ O' u, O = O' ++ [(u, z)] ∧ ∀ a, e[i]? = some a → lt u a = true
  shut : o = false → ∀ x ∈ O, no x.2 = false ∧ ∀ a, e[i]? = some a → lt x.2 a = true
  len : O.length ≤ i
theorem Scn.start (h : Rise T e) : Scn P e 0 false [] :=
  ⟨Canon.nil, fun k hk => (by have := hk z h.first; rw [z_le] at this; cases this), by simp, by simp, Nat.le_refl _⟩
theorem inn_open {f : ByteArray} : inn f z k = !lt k f := by simp [inn, ahd, no_z]
theorem Scn.new (h : Scn P e i false O) (hr : Rise T e) (hf : Flat P e) (ha : e[i]? = some a) (hp : P a = true) : Scn P e (i + 1) true (O ++ [(a, z)]) := by
  refine ⟨⟨fun x hx => ?_, pair_snoc.2 ⟨h.canon.apart, fun x hx => ⟨(h.shut rfl x hx).1, (h.shut rfl x hx).2 a ha⟩⟩⟩, fun k hk => ?_, fun _ => ⟨O, a, rfl, fun b hb => hr.lt_at (Nat.lt_succ_self i) ha hb⟩, by simp, by have := h.len; simp; omega⟩
  · rcases List.mem_append.1 hx with hx | hx
    · exact h.canon.ne x hx
    · rw [List.mem_singleton.1 hx]; exact emp_iff.2 (.inl no_z)
  · rw [cov_app, cov_one, inn_open]
    cases hka : lt k a
    · rw [hf i a ha k hka hk, hp]; simp
    · rw [h.cov k (fun b hb => by rw [ha] at hb; injection hb with hb; rw [← hb]; exact hka)]; simp
theorem Scn.keep (h : Scn P e i true O) (hr : Rise T e) (hf : Flat P e) (ha : e[i]? = some a) (hp : P a = true) : Scn P e (i + 1) true O := by
  obtain ⟨O', u, rfl, hu⟩ := h.opn rfl
  have hua := hu a ha
  refine ⟨h.canon, fun k hk => ?_, fun _ => ⟨O', u, rfl, fun b hb => lt_trans hua (hr.lt_at (Nat.lt_succ_self i) ha hb)⟩, by simp, by have := h.len; omega⟩
  cases hka : lt k a
  · rw [cov_app, cov_one, inn_open, hf i a ha k hka hk, hp, lt_asymm (lt_of_lt_le hua hka)]; simp
  · exact h.cov k (fun b hb => by rw [ha] at hb; injection hb with hb; rw [← hb]; exact hka)
theorem Scn.off (h : Scn P e i false O) (hr : Rise T e) (hf : Flat P e) (ha : e[i]? = some a) (hp : P a = false) : Scn P e (i + 1) false O := by
  refine ⟨h.canon, fun k hk => ?_, by simp, fun _ x hx => ⟨(h.shut rfl x hx).1, fun b hb => lt_trans ((h.shut rfl x hx).2 a ha) (hr.lt_at (Nat.lt_succ_self i) ha hb)⟩, by have := h.len; omega⟩
  cases hka : lt k a
  · rw [hf i a ha k hka hk, hp, cov_no]
    intro x hx
    obtain ⟨h1, h2⟩ := h.shut rfl x hx
    exact inn_no.2 (.inr ⟨h1, lt_asymm (lt_of_lt_le (h2 a ha) hka)⟩)
  · exact h.cov k (fun b hb => by rw [ha] at hb; injection hb with hb; rw [← hb]; exact hka)
theorem Scn.close {u : ByteArray} (h : Scn P e i true (O ++ [(u, z)])) (hr : Rise T e) (hf : Flat P e) (ha : e[i]? = some a) (hp : P a = false) : Scn P e (i + 1) false (O ++ [(u, a)]) := by
  have hua : lt u a = true := by
    obtain ⟨O', u', e1, hu⟩ := h.opn rfl
    have e2 := List.append_inj_right' e1 rfl
    simp only [List.cons.injEq, Prod.mk.injEq, and_true] at e2
    rw [e2]
    exact hu a ha
  have hpw := pair_snoc.1 h.canon.apart
  have hna : no a = false := lt_ne hua
  have hall : ∀ x ∈ O ++ [(u, a)], no x.2 = false ∧ lt a x.2 = false := fun x hx => by
    rcases List.mem_append.1 hx with hx | hx
    · obtain ⟨h1, h2⟩ := hpw.2 x hx
      exact ⟨h1, lt_asymm (lt_trans h2 hua)⟩
    · rw [List.mem_singleton.1 hx]; exact ⟨hna, lt_irr _⟩
  refine ⟨⟨fun x hx => ?_, pair_snoc.2 ⟨hpw.1, hpw.2⟩⟩, fun k hk => ?_, by simp, fun _ x hx => ⟨(hall x hx).1, fun b hb => ?_⟩, by have := h.len; simp at this ⊢; omega⟩
  · rcases List.mem_append.1 hx with hx | hx
    · exact h.canon.ne x (by simp [hx])
    · rw [List.mem_singleton.1 hx]; exact emp_iff.2 (.inr hua)
  · cases hka : lt k a
    · rw [hf i a ha k hka hk, hp, cov_no]
      intro x hx
      exact inn_no.2 (.inr ⟨(hall x hx).1, le_trans (hall x hx).2 hka⟩)
    · rw [← h.cov k (fun b hb => by rw [ha] at hb; injection hb with hb; rw [← hb]; exact hka), cov_app, cov_app, cov_one, cov_one, inn_open]
      unfold inn ahd
      rw [hna, hka]
      simp
  · exact lt_of_le_lt (hall x hx).2 (hr.lt_at (Nat.lt_succ_self i) ha hb)
theorem Scn.done (h : Scn P e e.length o O) : Canon O ∧ ∀ k, Ord.cov O k = P k := ⟨h.canon, fun k => h.cov k fun a ha => by rw [List.getElem?_eq_none (Nat.le_refl _)] at ha; cases ha⟩
end
end Ord
