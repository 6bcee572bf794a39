/- Elimination over the field of 256, as plain Lean: what a matrix at work is, step by step; ranks and inverses. Nothing about the program. -/
import Derived.Test.YtnicfpkadiamaaaLinP
set_option linter.unusedVariables false
set_option linter.unusedSimpArgs false
namespace Lin
/-- A matrix at work: of col columns r are clean. -/
structure Elm (R W : Nat) (T0 : Nat → Nat → UInt8) (col r : Nat) (T : Nat → Nat → UInt8) : Prop where
  sp1 : Spans R W T0 R T
  sp2 : Spans R W T R T0
  rle : r ≤ R
  piv : ∃ p : Nat → Nat, (∀ l, l < r → p l < col) ∧ (∀ l l', l < l' → l' < r → p l < p l') ∧ ∀ l i, l < r → i < R → T i (p l) = dl i l
  low : ∀ i k, r ≤ i → i < R → k < col → T i k = 0
section
variable {R W col r : Nat} {T0 T T' : Nat → Nat → UInt8}
theorem Elm.start : Elm R W T0 0 0 T0 := ⟨Spans.refl, Spans.refl, Nat.zero_le _, ⟨fun _ => 0, fun l h => by omega, fun l l' _ h => by omega, fun l i h => by omega⟩, fun i k _ _ h => by omega⟩
theorem Elm.skip (h : Elm R W T0 col r T) (hz : ∀ i, r ≤ i → i < R → T i col = 0) : Elm R W T0 (col + 1) r T := by
  obtain ⟨p, h1, h2, h3⟩ := h.piv
  refine ⟨h.sp1, h.sp2, h.rle, ⟨p, fun l hl => by have := h1 l hl; omega, h2, h3⟩, fun i k hi hR hk => ?_⟩
  by_cases e : k = col
  · rw [e]
    exact hz i hi hR
  · exact h.low i k hi hR (by omega)
theorem Elm.full (h : Elm R W T0 col R T) {col' : Nat} (hc : col ≤ col') : Elm R W T0 col' R T := by
  obtain ⟨p, h1, h2, h3⟩ := h.piv
  exact ⟨h.sp1, h.sp2, h.rle, ⟨p, fun l hl => by have := h1 l hl; omega, h2, h3⟩, fun i k hi hR hk => by omega⟩
/-- Two rows in each other's place. -/
def sw (a b i : Nat) : Nat := if i = a then b else if i = b then a else i
theorem sw_sw (a b i : Nat) : sw a b (sw a b i) = i := by
  unfold sw
  by_cases h1 : i = a
  · rw [if_pos h1]
    by_cases h3 : b = a
    · rw [if_pos h3]
      omega
    · rw [if_neg h3, if_pos rfl]
      omega
  · by_cases h2 : i = b
    · rw [if_neg h1, if_pos h2, if_pos rfl]
      omega
    · rw [if_neg h1, if_neg h2, if_neg h1, if_neg h2]
theorem sw_lt {a b i : Nat} (ha : a < R) (hb : b < R) (hi : i < R) : sw a b i < R := by
  unfold sw
  split
  · exact hb
  · split
    · exact ha
    · exact hi
theorem Elm.step (h : Elm R W T0 col r T) (hr : r < R) {q : Nat} (hq1 : r ≤ q) (hq : q < R) (hne : T q col ≠ 0) (hW : col < W)
    (ht : ∀ k, k < W → T' r k = gm (gi (T q col)) (T q k)) (ho : ∀ i k, i < R → i ≠ r → k < W → T' i k = T (sw r q i) k ^^^ gm (T (sw r q i) col) (T' r k)) : Elm R W T0 (col + 1) (r + 1) T' := by
  have hsr : sw r q r = q := if_pos rfl
  have low' : ∀ i k, r ≤ i → i < R → k < col → T (sw r q i) k = 0 := fun i k hi hR hk => h.low _ k (by unfold sw; split; omega; split <;> omega) (sw_lt hr hq hR) hk
  have hrow0 : ∀ k, k < col → T' r k = 0 := fun k hk => by rw [ht k (by omega), h.low q k hq1 hq hk, gm_zero]
  have s1 : Spans R W T R T' := fun i hi => by
    have hr' : Spn R W T (T' r) := ((Spn.row (M := T) hq).smul (gi (T q col))).congr ht
    by_cases e : i = r
    · rw [e]
      exact hr'
    · exact ((Spn.row (M := T) (sw_lt hr hq hi)).add (hr'.smul (T (sw r q i) col))).congr fun k hk => ho i k hi e hk
  have hqrow : Spn R W T' (T q) := ((Spn.row (M := T') hr).smul (T q col)).congr fun k hk => by rw [ht k hk, ← gm_assoc, mul_gi hne, one_gm]
  have s2 : Spans R W T' R T := fun i hi => by
    by_cases e : sw r q i = r
    · have : i = q := by rw [← sw_sw r q i, e, hsr]
      rw [this]
      exact hqrow
    · have : Spn R W T' (fun k => T' (sw r q i) k ^^^ gm (T (sw r q (sw r q i)) col) (T' r k)) := (Spn.row (M := T') (sw_lt hr hq hi)).add ((Spn.row (M := T') hr).smul (T (sw r q (sw r q i)) col))
      refine this.congr fun k hk => ?_
      show T i k = T' (sw r q i) k ^^^ gm (T (sw r q (sw r q i)) col) (T' r k)
      rw [ho _ k (sw_lt hr hq hi) e hk, UInt8.xor_assoc, x_self, x_zero, sw_sw]
  obtain ⟨p, h1, h2, h3⟩ := h.piv
  have hcol : ∀ i, i < R → T' i col = dl i r := fun i hi => by
    by_cases e : i = r
    · rw [e, ht col hW, gi_mul hne, dl_same]
    · rw [ho i col hi e hW, ht col hW, gi_mul hne, gm_one, x_self, dl_ne e]
  refine ⟨h.sp1.trans s1, s2.trans h.sp2, hr, ⟨fun l => if l = r then col else p l, fun l hl => ?_, fun l l' hl hl' => ?_, fun l i hl hi => ?_⟩, fun i k hi hR hk => ?_⟩
  · show (if l = r then col else p l) < col + 1
    split
    · omega
    · have := h1 l (by omega)
      omega
  · show (if l = r then col else p l) < (if l' = r then col else p l')
    rw [if_neg (by omega)]
    split
    · exact h1 l (by omega)
    · exact h2 l l' hl (by omega)
  · show T' i (if l = r then col else p l) = dl i l
    split
    · rename_i e
      rw [e]
      exact hcol i hi
    · have hlr : l < r := by omega
      have hp := h1 l hlr
      have hz : T' r (p l) = 0 := hrow0 _ hp
      by_cases e : i = r
      · rw [e, hz, dl_ne (by omega)]
      · rw [ho i _ hi e (by omega), hz, gm_zero, x_zero, h3 l _ hlr (sw_lt hr hq hi)]
        unfold dl sw
        rw [if_neg e]
        by_cases e2 : i = q
        · rw [if_pos e2, if_neg (by omega), if_neg (by omega)]
        · rw [if_neg e2]
  · by_cases e : k = col
    · rw [e, hcol i hR, dl_ne (by omega)]
    · rw [ho i k hR (by omega) (by omega), hrow0 k (by omega), gm_zero, x_zero]
      exact low' i k (by omega) hR (by omega)
theorem Elm.rank {C : Nat} (h : Elm R W T0 C r T) (hC : C ≤ W) : Rk R C T0 r := by
  obtain ⟨p, h1, h2, h3⟩ := h.piv
  refine ⟨⟨T, fun i hi => ((h.sp2 i hi).less hC).cutZ h.rle fun i k h1 h2 h3 => h.low i k h1 h2 h3⟩, T, fun i hi => (h.sp1 i (by have := h.rle; omega)).less hC, ?_⟩
  refine LI.stairs (a := p) h1 (fun l hl => ?_) (fun l j hlj hj => ?_)
  · rw [h3 l l hl (by have := h.rle; omega), dl_same]
    decide
  · rw [h3 l j (by omega) (by have := h.rle; omega), dl_ne (by omega)]
end
/-- One is the other's inverse, from both sides. -/
structure Inv (n : Nat) (M X : Nat → Nat → UInt8) : Prop where
  l : ∀ i k, i < n → k < n → sm n (fun j => gm (X i j) (M j k)) = dl i k
  r : ∀ i k, i < n → k < n → sm n (fun j => gm (M i j) (X j k)) = dl i k
theorem climb {n : Nat} {p : Nat → Nat} (h1 : ∀ l, l < n → p l < n) (h2 : ∀ l l', l < l' → l' < n → p l < p l') : ∀ l, l < n → p l = l := by
  have lo : ∀ l, l < n → l ≤ p l := by
    intro l
    induction l with
    | zero => intro _; omega
    | succ l ih =>
      intro hl
      have := ih (by omega)
      have := h2 l (l + 1) (by omega) hl
      omega
  have hi : ∀ d l, l + d + 1 = n → p l ≤ l := by
    intro d
    induction d with
    | zero => intro l hl; have := h1 l (by omega); omega
    | succ d ih =>
      intro l hl
      have := ih (l + 1) (by omega)
      have := h2 l (l + 1) (by omega) (by omega)
      omega
  intro l hl
  have := lo l hl
  have := hi (n - l - 1) l (by omega)
  omega
theorem Elm.inv {n : Nat} {T0 T : Nat → Nat → UInt8} (h : Elm n (n + n) T0 n n T) (hb : ∀ i k, i < n → k < n → T0 i (n + k) = dl i k) : Inv n T0 (fun i k => T i (n + k)) := by
  obtain ⟨p, h1, h2, h3⟩ := h.piv
  have hp := climb h1 h2
  have hT : ∀ i k, i < n → k < n → T i k = dl i k := fun i k hi hk => by
    have := h3 k i hk hi
    rw [hp k hk] at this
    exact this
  refine ⟨fun i k hi hk => ?_, fun i k hi hk => ?_⟩
  · obtain ⟨c, hc⟩ := h.sp1 i hi
    have hci : ∀ j, j < n → T i (n + j) = c j := fun j hj => by
      rw [hc (n + j) (by omega)]
      rw [sm_congr fun l hl => by rw [hb l j hl hj]]
      exact sm_dl' hj c
    rw [← hT i k hi hk, hc k (by omega)]
    exact sm_congr fun j hj => by rw [hci j hj]
  · obtain ⟨c, hc⟩ := h.sp2 i hi
    have hci : ∀ j, j < n → T0 i j = c j := fun j hj => by
      rw [hc j (by omega)]
      rw [sm_congr fun l hl => by rw [hT l j hl hj]]
      exact sm_dl' hj c
    rw [← hb i k hi hk, hc (n + k) (by omega)]
    exact sm_congr fun j hj => by rw [hci j hj]
/-- Products. -/
def mm (n : Nat) (A B : Nat → Nat → UInt8) : Nat → Nat → UInt8 := fun i k => sm n (fun j => gm (A i j) (B j k))
theorem mm_assoc (n m : Nat) (A B D : Nat → Nat → UInt8) (i k : Nat) : mm m (mm n A B) D i k = mm n A (mm m B D) i k := by
  unfold mm
  have e1 : sm m (fun j => gm (sm n (fun l => gm (A i l) (B l j))) (D j k)) = sm m (fun j => sm n (fun l => gm (A i l) (gm (B l j) (D j k)))) :=
    sm_congr fun j _ => by
      rw [mul_sm]
      exact sm_congr fun l _ => gm_assoc _ _ _
  rw [e1, sm_comm]
  exact sm_congr fun l _ => (sm_mul _ _ _).symm
theorem mm_congr {n : Nat} {A A' B B' : Nat → Nat → UInt8} {i k : Nat} (h1 : ∀ j, j < n → A i j = A' i j) (h2 : ∀ j, j < n → B j k = B' j k) : mm n A B i k = mm n A' B' i k :=
  sm_congr fun j hj => by rw [h1 j hj, h2 j hj]
theorem mm_one {n : Nat} {A B : Nat → Nat → UInt8} {i k : Nat} (hi : i < n) (h : ∀ j, j < n → A i j = dl i j) : mm n A B i k = B i k := by
  unfold mm
  rw [sm_congr fun j hj => by rw [h j hj]]
  exact sm_dl hi fun j => B j k
theorem one_mm {n : Nat} {A B : Nat → Nat → UInt8} {i k : Nat} (hk : k < n) (h : ∀ j, j < n → B j k = dl j k) : mm n A B i k = A i k := by
  unfold mm
  rw [sm_congr fun j hj => by rw [h j hj]]
  exact sm_dl' hk fun j => A i j
section
variable {n : Nat} {M X Y A B P Q : Nat → Nat → UInt8}
theorem Inv.unique (h : Inv n M X) (hY : ∀ i k, i < n → k < n → mm n Y M i k = dl i k) {i k : Nat} (hi : i < n) (hk : k < n) : Y i k = X i k := by
  have e := mm_assoc n n Y M X i k
  rw [mm_one hi (fun j hj => hY i j hi hj)] at e
  rw [e]
  exact (one_mm hk fun j hj => h.r j k hj hk).symm
theorem LI.one (n : Nat) : LI n n dl := LI.stairs (a := id) (fun l h => h) (fun l _ => by show dl l l ≠ 0; rw [dl_same]; decide) (fun l j h _ => dl_ne (by show j ≠ l; omega))
theorem Inv.ind (h : Inv n M X) : Ind n n M n := ⟨dl, fun i hi => ⟨X i, fun k hk => (h.l i k hi hk).symm⟩, LI.one n⟩
/-- What has an inverse has full rank. -/
theorem Inv.full {r : Nat} (h : Inv n M X) (g : Rk n n M r) : r = n := Nat.le_antisymm g.le_rows (h.ind.le g.1)
theorem Inv.mul (h : Inv n A P) (g : Inv n B Q) : Inv n (mm n A B) (mm n Q P) := by
  refine ⟨fun i k hi hk => ?_, fun i k hi hk => ?_⟩
  · show mm n (mm n Q P) (mm n A B) i k = _
    rw [mm_assoc]
    have : mm n Q (mm n P (mm n A B)) i k = mm n Q B i k := mm_congr (fun _ _ => rfl) fun j hj => by
      rw [← mm_assoc]
      exact mm_one hj fun l hl => h.l j l hj hl
    rw [this]
    exact g.l i k hi hk
  · show mm n (mm n A B) (mm n Q P) i k = _
    rw [mm_assoc]
    have : mm n A (mm n B (mm n Q P)) i k = mm n A P i k := mm_congr (fun _ _ => rfl) fun j hj => by
      rw [← mm_assoc]
      exact mm_one hj fun l hl => g.r j l hj hl
    rw [this]
    exact h.r i k hi hk
theorem Inv.congr (h : Inv n M X) (hM : ∀ i k, i < n → k < n → A i k = M i k) (hX : ∀ i k, i < n → k < n → Y i k = X i k) : Inv n A Y :=
  ⟨fun i k hi hk => by rw [sm_congr fun j hj => by rw [hX i j hi hj, hM j k hj hk]]; exact h.l i k hi hk, fun i k hi hk => by rw [sm_congr fun j hj => by rw [hX j k hj hk, hM i j hi hj]]; exact h.r i k hi hk⟩
/-- Independent rows have full rank. -/
theorem LI.full {r : Nat} (h : LI n n M) (g : Rk n n M r) : r = n := Nat.le_antisymm g.le_rows (Ind.le (⟨M, Spans.refl, h⟩ : Ind n n M n) g.1)
end
end Lin
