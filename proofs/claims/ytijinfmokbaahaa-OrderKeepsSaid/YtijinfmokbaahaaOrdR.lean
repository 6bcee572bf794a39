/- Order: plain: rows permuted in a part, cut in two, put in order part by part. -/
import Derived.Sort.LotA
import Derived.Sort.LotB
set_option linter.unusedVariables false
set_option linter.unusedSectionVars false
namespace Cib
open Go.Sort (swp PermIn SortedIn SWO size_swp swp_other swp_left swp_right permIn_refl permIn_trans permIn_all permIn_mono swp_permIn)
section
variable {α : Type} [Inhabited α] {lt u : α → α → Bool} {d dk d' : Array α} {a b i j m p : Nat} {P : α}
theorem perm_swp (h : PermIn a b d dk) (hb : b ≤ d.size) (hai : a ≤ i) (hib : i < b) (haj : a ≤ j) (hjb : j < b) : PermIn a b d (swp dk i j) :=
  permIn_trans _ _ _ _ _ h (swp_permIn _ _ _ _ _ hai hib haj hjb (by rw [h.1]; exact hb))
theorem swo_asym (h : SWO lt) {x y : α} (hl : lt x y = true) : lt y x = false := by
  cases hh : lt y x with
  | false => rfl
  | true => exact absurd (h.trans _ _ _ hl hh) (by rw [h.irrefl]; decide)
/-- A row under way to be cut in two by its first: what goes left stands ahead of i, the rest behind j. -/
structure CutI (u : α → α → Bool) (P : α) (a b : Nat) (d : Array α) (i j : Nat) (dk : Array α) : Prop where
  perm : PermIn a b d dk
  piv : dk[a]! = P
  hai : a < i
  hij : i ≤ j + 1
  hjb : j < b
  hb : b ≤ d.size
  left : ∀ x, a < x → x < i → u P dk[x]! = true
  right : ∀ x, j < x → x < b → u P dk[x]! = false
theorem CutI.start (hap : a ≤ p) (hpb : p < b) (hb : b ≤ d.size) : CutI u d[p]! a b d (a + 1) (b - 1) (swp d a p) := by
  refine ⟨swp_permIn _ _ _ _ _ (Nat.le_refl _) (by omega) hap hpb hb, ?_, by omega, by omega, by omega, hb, fun x h1 h2 => by omega, fun x h1 h2 => by omega⟩
  by_cases h : a = p
  · subst h; exact swp_right _ _ _ (by omega)
  · exact swp_left _ _ _ (by omega) h
theorem CutI.up (h : CutI u P a b d i j dk) (hle : i ≤ j) (hu : u P dk[i]! = true) : CutI u P a b d (i + 1) j dk :=
  ⟨h.perm, h.piv, by have := h.hai; omega, by omega, h.hjb, h.hb, fun x h1 h2 => by
    by_cases hx : x = i
    · rw [hx]; exact hu
    · exact h.left x h1 (by omega), h.right⟩
theorem CutI.down (h : CutI u P a b d i j dk) (hle : i ≤ j) (hu : u P dk[j]! = false) : CutI u P a b d i (j - 1) dk :=
  ⟨h.perm, h.piv, h.hai, by have := h.hai; omega, by have := h.hjb; omega, h.hb, h.left, fun x h1 h2 => by
    by_cases hx : x = j
    · rw [hx]; exact hu
    · exact h.right x (by omega) h2⟩
theorem CutI.swap (h : CutI u P a b d i j dk) (hlt : i < j) (hi : u P dk[i]! = false) (hj : u P dk[j]! = true) : CutI u P a b d (i + 1) (j - 1) (swp dk i j) := by
  have h1 := h.hai
  have h2 := h.hjb
  have h3 := h.hb
  have hs := h.perm.1
  refine ⟨perm_swp h.perm h.hb (by omega) (by omega) (by omega) (by omega), ?_, by omega, by omega, by omega, h.hb, ?_, ?_⟩
  · rw [swp_other _ _ _ _ (by omega) (by omega)]; exact h.piv
  · intro x hx1 hx2
    by_cases hx : x = i
    · subst hx; rw [swp_left _ _ _ (by omega) (by omega)]; exact hj
    · rw [swp_other _ _ _ _ hx (by omega)]; exact h.left x hx1 (by omega)
  · intro x hx1 hx2
    by_cases hx : x = j
    · subst hx; rw [swp_right _ _ _ (by omega)]; exact hi
    · rw [swp_other _ _ _ _ (by omega) hx]; exact h.right x (by omega) hx2
/-- A row cut at m: nothing ahead is greater, nothing behind is less. -/
structure Cutt (lt : α → α → Bool) (a b m : Nat) (d : Array α) : Prop where
  ham : a ≤ m
  hmb : m < b
  left : ∀ x, a ≤ x → x < m → lt d[m]! d[x]! = false
  right : ∀ x, m < x → x < b → lt d[x]! d[m]! = false
theorem CutI.done (h : CutI (fun q x => lt x q) P a b d i j dk) (hO : SWO lt) (hlt : j < i) : PermIn a b d (swp dk j a) ∧ Cutt lt a b j (swp dk j a) := by
  have h1 := h.hai
  have h2 := h.hjb
  have h3 := h.hb
  have h4 := h.hij
  have hs := h.perm.1
  have e : (swp dk j a)[j]! = P := by
    by_cases hj : j = a
    · subst hj; rw [swp_right _ _ _ (by omega)]; exact h.piv
    · rw [swp_left _ _ _ (by omega) hj]; exact h.piv
  refine ⟨perm_swp h.perm h.hb (by omega) (by omega) (by omega) (by omega), by omega, by omega, ?_, ?_⟩
  · intro x hx1 hx2
    rw [e]
    by_cases hx : x = a
    · subst hx; rw [swp_right _ _ _ (by omega)]; exact swo_asym hO (h.left j (by omega) (by omega))
    · rw [swp_other _ _ _ _ (by omega) hx]; exact swo_asym hO (h.left x (by omega) (by omega))
  · intro x hx1 hx2
    rw [e, swp_other _ _ _ _ (by omega) (by omega)]
    exact h.right x hx1 hx2
/-- Cut in those equal to the first and those greater. -/
structure CutE (lt : α → α → Bool) (P : α) (a b m : Nat) (d : Array α) : Prop where
  ham : a < m
  hmb : m ≤ b
  left : ∀ x, a ≤ x → x < m → lt P d[x]! = false
  right : ∀ x, m ≤ x → x < b → lt P d[x]! = true
theorem CutI.doneE (h : CutI (fun q x => !lt q x) P a b d i j dk) (hO : SWO lt) (hlt : j < i) : PermIn a b d dk ∧ CutE lt P a b i dk := by
  have h1 := h.hai
  have h2 := h.hjb
  have h4 := h.hij
  refine ⟨h.perm, by omega, by omega, ?_, ?_⟩
  · intro x hx1 hx2
    by_cases hx : x = a
    · subst hx; rw [h.piv]; exact hO.irrefl _
    · have := h.left x (by omega) hx2
      simpa using this
  · intro x hx1 hx2
    have := h.right x (by omega) hx2
    simpa using this
theorem Cutt.perm (h : Cutt lt a b m d) (hb : b ≤ d.size) (h1 : PermIn a m d d' ∨ PermIn (m + 1) b d d') : Cutt lt a b m d' := by
  have ha := h.ham
  have hm := h.hmb
  rcases h1 with h1 | h1
  · have e : ∀ x, m ≤ x → d'[x]! = d[x]! := fun x hx => h1.2.1 x (.inr hx)
    refine ⟨ha, hm, ?_, fun x hx1 hx2 => by rw [e x (by omega), e m (Nat.le_refl _)]; exact h.right x hx1 hx2⟩
    rw [e m (Nat.le_refl _)]
    exact permIn_all d d' a m (fun y => lt d[m]! y = false) (by omega) h1 h.left
  · have e : ∀ x, x ≤ m → d'[x]! = d[x]! := fun x hx => h1.2.1 x (.inl (by omega))
    refine ⟨ha, hm, fun x hx1 hx2 => by rw [e x (by omega), e m (Nat.le_refl _)]; exact h.left x hx1 hx2, ?_⟩
    rw [e m (Nat.le_refl _)]
    exact fun x hx1 hx2 => permIn_all d d' (m + 1) b (fun y => lt y d[m]! = false) (by omega) h1 (fun i hi1 hi2 => h.right i (by omega) hi2) x (by omega) hx2
theorem Cutt.glue (h : Cutt lt a b m d) (hO : SWO lt) (h1 : SortedIn lt a m d) (h2 : SortedIn lt (m + 1) b d) : SortedIn lt a b d := by
  intro x y hx hxy hy
  by_cases hym : y < m
  · exact h1 x y hx hxy hym
  · by_cases hxm : m < x
    · exact h2 x y (by omega) hxy hy
    · by_cases e1 : y = m
      · subst e1; exact h.left x hx hxy
      · by_cases e2 : x = m
        · subst e2; exact h.right y hxy hy
        · exact hO.ntrans _ _ _ (h.right y (by omega) hy) (h.left x hx (by omega))
/-- A row in order from one to the next is in order. -/
theorem adj_sorted (hO : SWO lt) (h : ∀ x, a < x → x < b → lt d[x]! d[x - 1]! = false) : SortedIn lt a b d := by
  have H : ∀ k x, a ≤ x → x + k + 1 < b → lt d[x + k + 1]! d[x]! = false := by
    intro k
    induction k with
    | zero => intro x h1 h2; exact h (x + 1) (by omega) (by omega)
    | succ k ih => intro x h1 h2; exact hO.ntrans _ _ _ (h (x + (k + 1) + 1) (by omega) (by omega)) (ih x h1 (by omega))
  intro x y hx hxy hy
  have := H (y - x - 1) x hx (by omega)
  rwa [show x + (y - x - 1) + 1 = y by omega] at this
/-- Under way: the part a', b' is left. -/
structure Und (lt : α → α → Bool) (a b : Nat) (d : Array α) (a' b' : Nat) (dk : Array α) : Prop where
  haa : a ≤ a'
  hab : a' ≤ b'
  hbb : b' ≤ b
  hb : b ≤ d.size
  perm : PermIn a b d dk
  bel : Go.Sort.Below lt a' b' dk
  out : ∀ d'', PermIn a' b' dk d'' → SortedIn lt a' b' d'' → SortedIn lt a b d''
variable {a' b' : Nat}
theorem Und.start (hab : a ≤ b) (hb : b ≤ d.size) (h : Go.Sort.Below lt a b d) : Und lt a b d a b d := ⟨Nat.le_refl _, hab, Nat.le_refl _, hb, permIn_refl _ _ _, h, fun _ _ h => h⟩
theorem Und.hsz (h : Und lt a b d a' b' dk) : b' ≤ dk.size := by have := h.hbb; have := h.hb; have := h.perm.1; omega
theorem below_perm (h : Go.Sort.Below lt a b d) (hb : b ≤ d.size) (hp : PermIn a b d d') : Go.Sort.Below lt a b d' := by
  rcases h with h | h
  · exact .inl h
  · by_cases h0 : a = 0
    · exact .inl h0
    · refine .inr ?_
      rw [hp.2.1 (a - 1) (.inl (by omega))]
      exact permIn_all d d' a b (fun y => lt y d[a - 1]! = false) hb hp h
theorem Und.step (h : Und lt a b d a' b' dk) (hp : PermIn a' b' dk d') : Und lt a b d a' b' d' :=
  ⟨h.haa, h.hab, h.hbb, h.hb, permIn_trans _ _ _ _ _ h.perm (permIn_mono _ _ _ _ _ _ h.haa h.hbb (by rw [h.perm.1]; exact h.hb) hp), below_perm h.bel h.hsz hp, fun d'' h1 h2 => h.out d'' (permIn_trans _ _ _ _ _ hp h1) h2⟩
theorem Und.done (h : Und lt a b d a' b' dk) (hp : PermIn a' b' dk d') (hs : SortedIn lt a' b' d') : PermIn a b d d' ∧ SortedIn lt a b d' := ⟨(h.step hp).perm, h.out _ hp hs⟩
theorem Und.belL (h : Und lt a b d a' b' dk) (hc : Cutt lt a' b' m dk) : Go.Sort.Below lt a' m dk := by
  rcases h.bel with h1 | h1
  · exact .inl h1
  · exact .inr fun i h2 h3 => h1 i h2 (by have := hc.hmb; omega)
theorem Cutt.belR (hc : Cutt lt a b m dk) : Go.Sort.Below lt (m + 1) b dk := .inr fun i h1 h2 => hc.right i (by omega) h2
theorem Und.left (h : Und lt a b d a' b' dk) (hO : SWO lt) (hc : Cutt lt a' b' m dk) (hp : PermIn a' m dk d') (hs : SortedIn lt a' m d') : Und lt a b d (m + 1) b' d' := by
  have hz := h.hsz
  have h1 := hc.ham
  have h2 := hc.hmb
  have hc' := hc.perm hz (.inl hp)
  have hpz : b' ≤ d'.size := by rw [hp.1]; exact hz
  refine ⟨by have := h.haa; omega, by omega, h.hbb, h.hb, (h.step (permIn_mono _ _ _ _ _ _ (Nat.le_refl _) (by omega) hz hp)).perm, hc'.belR, fun d'' h3 h4 => h.out d'' (permIn_trans _ _ _ _ _ (permIn_mono _ _ _ _ _ _ (Nat.le_refl _) (by omega) hz hp) (permIn_mono _ _ _ _ _ _ (by omega) (Nat.le_refl _) hpz h3)) ?_⟩
  refine (hc'.perm hpz (.inr h3)).glue hO (fun x y hx hxy hy => ?_) h4
  rw [h3.2.1 x (.inl (by omega)), h3.2.1 y (.inl (by omega))]
  exact hs x y hx hxy hy
theorem Und.right (h : Und lt a b d a' b' dk) (hO : SWO lt) (hc : Cutt lt a' b' m dk) (hp : PermIn (m + 1) b' dk d') (hs : SortedIn lt (m + 1) b' d') : Und lt a b d a' m d' := by
  have hz := h.hsz
  have h1 := hc.ham
  have h2 := hc.hmb
  have hc' := hc.perm hz (.inr hp)
  have hpz : b' ≤ d'.size := by rw [hp.1]; exact hz
  have hst := h.step (permIn_mono _ _ _ _ _ _ (by omega) (Nat.le_refl _) hz hp)
  refine ⟨h.haa, by omega, by have := h.hbb; omega, h.hb, hst.perm, hst.belL hc', fun d'' h3 h4 => hst.out d'' (permIn_mono _ _ _ _ _ _ (Nat.le_refl _) (by omega) hpz h3) ?_⟩
  refine (hc'.perm hpz (.inl h3)).glue hO h4 (fun x y hx hxy hy => ?_)
  rw [h3.2.1 x (.inr (by omega)), h3.2.1 y (.inr (by omega))]
  exact hs x y hx hxy hy
/-- Where nothing left is less than what stands ahead of it, and the pivot is not greater than that: those equal to the pivot are done. -/
theorem Und.equal (h : Und lt a b d a' b' dk) (hO : SWO lt) (h0 : 0 < a') (hP : lt dk[a' - 1]! P = false) (hp : PermIn a' b' dk d') (hc : CutE lt P a' b' m d') : Und lt a b d m b' d' := by
  have hz := h.hsz
  have h1 := hc.ham
  have h2 := hc.hmb
  have hst := h.step hp
  have hpz : b' ≤ d'.size := by rw [hp.1]; exact hz
  have hno : ∀ i, a' ≤ i → i < b' → lt d'[i]! P = false := by
    rcases h.bel with h3 | h3
    · omega
    · exact permIn_all dk d' a' b' (fun y => lt y P = false) hz hp fun i hi1 hi2 => hO.ntrans _ _ _ (h3 i hi1 hi2) hP
  refine ⟨by have := h.haa; omega, h2, h.hbb, h.hb, hst.perm, .inr fun i hi1 hi2 => hO.ntrans _ _ _ (hno i (by omega) hi2) (hc.left (m - 1) (by omega) (by omega)), fun d'' h3 h4 => hst.out d'' (permIn_mono _ _ _ _ _ _ (by omega) (Nat.le_refl _) hpz h3) ?_⟩
  have hR : ∀ i, m ≤ i → i < b' → lt d''[i]! P = false := permIn_all d' d'' m b' (fun y => lt y P = false) hpz h3 fun i hi1 hi2 => hno i (by omega) hi2
  have hL : ∀ i, i < m → d''[i]! = d'[i]! := fun i hi => h3.2.1 i (.inl hi)
  intro x y hx hxy hy
  by_cases hxm : m ≤ x
  · exact h4 x y hxm hxy hy
  · rw [hL x (by omega)]
    refine hO.ntrans _ P _ ?_ (hc.left x hx (by omega))
    by_cases hym : m ≤ y
    · exact hR y hym hy
    · rw [hL y (by omega)]; exact hno y (by omega) hy
end
end Cib
