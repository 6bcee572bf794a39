/- Sums, spans of rows and ranks over the field of 256, as plain Lean. Nothing about the program. -/
import Derived.Test.YtnicfpkadiamaaaFldM
set_option linter.unusedVariables false
set_option linter.unusedSimpArgs false
namespace Lin
/-- The product. -/
def gm (a b : UInt8) : UInt8 := UInt8.ofNat (Fld.gmul a.toNat b.toNat)
/-- The inverse. -/
def gi (a : UInt8) : UInt8 := UInt8.ofNat (Fld.gdiv 1 a.toNat)
theorem gm_toNat (a b : UInt8) : (gm a b).toNat = Fld.gmul a.toNat b.toNat := by
  unfold gm
  rw [UInt8.toNat_ofNat', Nat.mod_eq_of_lt (Fld.gmul_lt a.toNat_lt)]
theorem gi_toNat (a : UInt8) : (gi a).toNat = Fld.gdiv 1 a.toNat := by
  unfold gi
  rw [UInt8.toNat_ofNat', Nat.mod_eq_of_lt (Fld.gdiv_lt _ _)]
theorem ext8 {a b : UInt8} (h : a.toNat = b.toNat) : a = b := UInt8.toNat_inj.1 h
theorem ne8 {a : UInt8} (h : a ≠ 0) : a.toNat ≠ 0 := fun e => h (ext8 (by simpa using e))
theorem gm_comm (a b : UInt8) : gm a b = gm b a := ext8 (by rw [gm_toNat, gm_toNat, Fld.mul_comm a.toNat_lt b.toNat_lt])
theorem gm_assoc (a b c : UInt8) : gm (gm a b) c = gm a (gm b c) := ext8 (by rw [gm_toNat, gm_toNat, gm_toNat, gm_toNat, Fld.mul_assoc a.toNat_lt b.toNat_lt c.toNat_lt])
theorem gm_xor (a b c : UInt8) : gm a (b ^^^ c) = gm a b ^^^ gm a c := ext8 (by rw [gm_toNat, UInt8.toNat_xor, UInt8.toNat_xor, gm_toNat, gm_toNat, Fld.mul_xor])
theorem xor_gm (a b c : UInt8) : gm (a ^^^ b) c = gm a c ^^^ gm b c := by rw [gm_comm, gm_xor, gm_comm c a, gm_comm c b]
theorem gm_one (a : UInt8) : gm a 1 = a := ext8 (by rw [gm_toNat]; exact Fld.mul_one a.toNat_lt)
theorem one_gm (a : UInt8) : gm 1 a = a := by rw [gm_comm, gm_one]
theorem zero_gm (a : UInt8) : gm 0 a = 0 := ext8 (by rw [gm_toNat]; exact Fld.zero_mul _)
theorem gm_zero (a : UInt8) : gm a 0 = 0 := by rw [gm_comm, zero_gm]
theorem gm_ne {a b : UInt8} (ha : a ≠ 0) (hb : b ≠ 0) : gm a b ≠ 0 := fun e => by
  have h := congrArg UInt8.toNat e
  rw [gm_toNat] at h
  exact Fld.mul_ne a.toNat_lt b.toNat_lt (ne8 ha) (ne8 hb) (by simpa using h)
theorem gm_eq {a b : UInt8} (h : gm a b = 0) (ha : a ≠ 0) : b = 0 := Classical.byContradiction fun hb => gm_ne ha hb h
theorem gi_mul {a : UInt8} (h : a ≠ 0) : gm (gi a) a = 1 := ext8 (by
  rw [gm_toNat, gi_toNat]
  exact Fld.div_mul (by decide) a.toNat_lt (ne8 h))
theorem mul_gi {a : UInt8} (h : a ≠ 0) : gm a (gi a) = 1 := by rw [gm_comm, gi_mul h]
theorem gi_ne {a : UInt8} (h : a ≠ 0) : gi a ≠ 0 := fun e => by
  have := gi_mul h
  rw [e, zero_gm] at this
  exact absurd this (by decide)
theorem x_self (a : UInt8) : a ^^^ a = 0 := UInt8.xor_self
theorem x_zero (a : UInt8) : a ^^^ 0 = a := UInt8.xor_zero
theorem z_xor (a : UInt8) : 0 ^^^ a = a := UInt8.zero_xor
theorem x_cancel (a b : UInt8) : a ^^^ (a ^^^ b) = b := by rw [← UInt8.xor_assoc, x_self, z_xor]
theorem x_eq {a b : UInt8} (h : a ^^^ b = 0) : a = b := by
  have := congrArg (· ^^^ b) h
  simp only [UInt8.xor_assoc, x_self, x_zero, z_xor] at this
  exact this
theorem x_ne {a b : UInt8} (h : a ≠ b) : a ^^^ b ≠ 0 := fun e => h (x_eq e)
/-- Sums. -/
def sm : Nat → (Nat → UInt8) → UInt8
  | 0, _ => 0
  | n + 1, f => sm n f ^^^ f n
theorem sm_congr {n : Nat} {f g : Nat → UInt8} (h : ∀ j, j < n → f j = g j) : sm n f = sm n g := by
  induction n with
  | zero => rfl
  | succ n ih => unfold sm; rw [ih fun j hj => h j (by omega), h n (by omega)]
theorem sm_xor (n : Nat) (f g : Nat → UInt8) : sm n (fun j => f j ^^^ g j) = sm n f ^^^ sm n g := by
  induction n with
  | zero => exact (x_self 0).symm
  | succ n ih =>
    show sm n _ ^^^ (f n ^^^ g n) = sm n f ^^^ f n ^^^ (sm n g ^^^ g n)
    rw [ih]
    ac_rfl
theorem sm_mul (c : UInt8) (n : Nat) (f : Nat → UInt8) : gm c (sm n f) = sm n (fun j => gm c (f j)) := by
  induction n with
  | zero => exact gm_zero c
  | succ n ih => unfold sm; rw [gm_xor, ih]
theorem mul_sm (c : UInt8) (n : Nat) (f : Nat → UInt8) : gm (sm n f) c = sm n (fun j => gm (f j) c) := by
  rw [gm_comm, sm_mul]
  exact sm_congr fun j _ => gm_comm _ _
theorem sm_zero {n : Nat} {f : Nat → UInt8} (h : ∀ j, j < n → f j = 0) : sm n f = 0 := by
  induction n with
  | zero => rfl
  | succ n ih => unfold sm; rw [ih fun j hj => h j (by omega), h n (by omega)]; exact x_self 0
theorem sm_comm (n m : Nat) (f : Nat → Nat → UInt8) : sm n (fun i => sm m (fun j => f i j)) = sm m (fun j => sm n (fun i => f i j)) := by
  induction n with
  | zero => exact (sm_zero fun _ _ => rfl).symm
  | succ n ih =>
    show sm n _ ^^^ sm m _ = sm m (fun j => sm n (fun i => f i j) ^^^ f n j)
    rw [sm_xor, ih]
theorem sm_one {n k : Nat} {f : Nat → UInt8} (hk : k < n) (h : ∀ j, j < n → j ≠ k → f j = 0) : sm n f = f k := by
  induction n with
  | zero => omega
  | succ n ih =>
    unfold sm
    by_cases hn : k = n
    · subst hn
      rw [sm_zero fun j hj => h j (by omega) (by omega), z_xor]
    · rw [ih (by omega) fun j hj hjk => h j (by omega) hjk, h n (by omega) (by omega), x_zero]
/-- All but p. -/
def skip (p j : Nat) : Nat := if j < p then j else j + 1
theorem sm_skip (f : Nat → UInt8) : ∀ (m p : Nat), p ≤ m → sm (m + 1) f = f p ^^^ sm m (fun j => f (skip p j))
  | 0, p, h => by
    obtain rfl : p = 0 := by omega
    show sm 0 f ^^^ f 0 = f 0 ^^^ 0
    rw [x_zero]
    exact z_xor _
  | m + 1, p, h => by
    by_cases hp : p = m + 1
    · subst hp
      have : sm (m + 1) (fun j => f (skip (m + 1) j)) = sm (m + 1) f := sm_congr fun j hj => by unfold skip; rw [if_pos hj]
      rw [this]
      exact UInt8.xor_comm _ _
    · show sm (m + 1) f ^^^ f (m + 1) = f p ^^^ (sm m _ ^^^ f (skip p m))
      rw [sm_skip f m p (by omega), UInt8.xor_assoc]
      congr 2
      unfold skip
      rw [if_neg (by omega)]
/-- One or nought. -/
def dl (i j : Nat) : UInt8 := if i = j then 1 else 0
theorem dl_same (i : Nat) : dl i i = 1 := if_pos rfl
theorem dl_ne {i j : Nat} (h : i ≠ j) : dl i j = 0 := if_neg h
theorem dl_comm (i j : Nat) : dl i j = dl j i := by
  unfold dl
  by_cases h : i = j
  · rw [if_pos h, if_pos h.symm]
  · rw [if_neg h, if_neg (Ne.symm h)]
theorem sm_dl {n k : Nat} (hk : k < n) (f : Nat → UInt8) : sm n (fun j => gm (dl k j) (f j)) = f k := by
  rw [sm_one hk fun j _ hj => by rw [dl_ne (Ne.symm hj), zero_gm], dl_same, one_gm]
theorem sm_dl' {n k : Nat} (hk : k < n) (f : Nat → UInt8) : sm n (fun j => gm (f j) (dl j k)) = f k := by
  rw [sm_one hk fun j _ hj => by rw [dl_ne hj, gm_zero], dl_same, gm_one]
/-- A row is a sum of multiples of R rows, as to its first C numbers. -/
def Spn (R C : Nat) (M : Nat → Nat → UInt8) (v : Nat → UInt8) : Prop := ∃ c : Nat → UInt8, ∀ k, k < C → v k = sm R (fun j => gm (c j) (M j k))
def Spans (R C : Nat) (M : Nat → Nat → UInt8) (r : Nat) (T : Nat → Nat → UInt8) : Prop := ∀ i, i < r → Spn R C M (T i)
section
variable {R C r s : Nat} {M T U : Nat → Nat → UInt8} {u v : Nat → UInt8}
theorem Spn.row {j : Nat} (hj : j < R) : Spn R C M (M j) := ⟨dl j, fun k _ => (sm_dl hj fun j => M j k).symm⟩
theorem Spn.congr (h : Spn R C M u) (e : ∀ k, k < C → v k = u k) : Spn R C M v := by
  obtain ⟨c, hc⟩ := h
  exact ⟨c, fun k hk => (e k hk).trans (hc k hk)⟩
theorem Spn.nil : Spn R C M (fun _ => 0) := ⟨fun _ => 0, fun k _ => (sm_zero fun j _ => zero_gm _).symm⟩
theorem Spn.add (h : Spn R C M u) (g : Spn R C M v) : Spn R C M (fun k => u k ^^^ v k) := by
  obtain ⟨c, hc⟩ := h
  obtain ⟨d, hd⟩ := g
  refine ⟨fun j => c j ^^^ d j, fun k hk => ?_⟩
  show u k ^^^ v k = _
  rw [hc k hk, hd k hk, ← sm_xor]
  exact sm_congr fun j _ => (xor_gm _ _ _).symm
theorem Spn.smul (a : UInt8) (h : Spn R C M u) : Spn R C M (fun k => gm a (u k)) := by
  obtain ⟨c, hc⟩ := h
  refine ⟨fun j => gm a (c j), fun k hk => ?_⟩
  show gm a (u k) = _
  rw [hc k hk, sm_mul]
  exact sm_congr fun j _ => (gm_assoc _ _ _).symm
theorem Spn.sum {n : Nat} (a : Nat → UInt8) (V : Nat → Nat → UInt8) (h : ∀ j, j < n → Spn R C M (V j)) : Spn R C M (fun k => sm n (fun j => gm (a j) (V j k))) := by
  induction n with
  | zero => exact Spn.nil
  | succ n ih => exact (ih fun j hj => h j (by omega)).add ((h n (by omega)).smul (a n))
theorem Spn.trans (h : Spn r C T v) (g : Spans R C M r T) : Spn R C M v := by
  obtain ⟨c, hc⟩ := h
  exact (Spn.sum c T g).congr hc
theorem Spans.refl : Spans R C M R M := fun _ hi => Spn.row hi
theorem Spans.trans (h : Spans R C M r T) (g : Spans r C T s U) : Spans R C M s U := fun i hi => (g i hi).trans h
theorem Spn.less {C' : Nat} (h : Spn R C M v) (hC : C' ≤ C) : Spn R C' M v := by
  obtain ⟨c, hc⟩ := h
  exact ⟨c, fun k hk => hc k (by omega)⟩
theorem Spans.less {C' : Nat} (h : Spans R C M r T) (hC : C' ≤ C) : Spans R C' M r T := fun i hi => (h i hi).less hC
theorem Spans.congr (h : Spans R C M r T) (e : ∀ i k, i < r → k < C → U i k = T i k) : Spans R C M r U := fun i hi => (h i hi).congr fun k hk => e i k hi hk
theorem Spn.congrM {M' : Nat → Nat → UInt8} (h : Spn R C M v) (e : ∀ i k, i < R → k < C → M i k = M' i k) : Spn R C M' v := by
  obtain ⟨c, hc⟩ := h
  exact ⟨c, fun k hk => (hc k hk).trans (sm_congr fun j hj => by rw [e j k hj hk])⟩
theorem Spans.congrM {M' : Nat → Nat → UInt8} (h : Spans R C M r T) (e : ∀ i k, i < R → k < C → M i k = M' i k) : Spans R C M' r T := fun i hi => (h i hi).congrM e
/-- Rows that are nought may be left out. -/
theorem Spn.cutZ (h : Spn R C M v) (hr : r ≤ R) (hz : ∀ i k, r ≤ i → i < R → k < C → M i k = 0) : Spn r C M v :=
  h.trans fun i hi => if hir : i < r then Spn.row hir else (Spn.nil).congr fun k hk => hz i k (by omega) hi hk
/-- Rows of which none is a sum of multiples of the others. -/
def LI (R C : Nat) (T : Nat → Nat → UInt8) : Prop := ∀ x : Nat → UInt8, (∀ k, k < C → sm R (fun j => gm (x j) (T j k)) = 0) → ∀ j, j < R → x j = 0
theorem homog : ∀ (n m : Nat) (A : Nat → Nat → UInt8), n < m → ∃ x : Nat → UInt8, (∃ j, j < m ∧ x j ≠ 0) ∧ ∀ k, k < n → sm m (fun j => gm (x j) (A j k)) = 0
  | 0, m, A, h => ⟨fun _ => 1, ⟨0, h, by decide⟩, fun k hk => by omega⟩
  | n + 1, m, A, h => by
    by_cases hall : ∀ j, j < m → A j n = 0
    · obtain ⟨x, hx, hs⟩ := homog n m A (by omega)
      refine ⟨x, hx, fun k hk => ?_⟩
      by_cases hkn : k = n
      · subst hkn
        exact sm_zero fun j hj => by rw [hall j hj, gm_zero]
      · exact hs k (by omega)
    · obtain ⟨p, hp⟩ := Classical.not_forall.1 hall
      obtain ⟨hpm, hpn⟩ := Classical.not_imp.1 hp
      obtain ⟨m', rfl⟩ : ∃ m', m = m' + 1 := ⟨m - 1, by omega⟩
      obtain ⟨q, hq⟩ : ∃ q : Nat → UInt8, ∀ j, q j = gm (A (skip p j) n) (gi (A p n)) := ⟨_, fun _ => rfl⟩
      obtain ⟨y, ⟨j0, hj0, hy0⟩, hs⟩ := homog n m' (fun j k => A (skip p j) k ^^^ gm (q j) (A p k)) (by omega)
      have hk0 : ∀ k, k < n + 1 → sm m' (fun j => gm (y j) (A (skip p j) k ^^^ gm (q j) (A p k))) = 0 := by
        intro k hk
        by_cases hkn : k = n
        · subst hkn
          refine sm_zero fun j _ => ?_
          rw [hq, gm_assoc, gi_mul hpn, gm_one, x_self, gm_zero]
        · exact hs k (by omega)
      refine ⟨fun i => if i = p then sm m' (fun j => gm (y j) (q j)) else if i < p then y i else y (i - 1), ?_, fun k hk => ?_⟩
      · refine ⟨skip p j0, by unfold skip; split <;> omega, ?_⟩
        unfold skip
        by_cases hjp : j0 < p
        · rw [if_pos hjp]
          dsimp only
          rw [if_neg (by omega), if_pos hjp]
          exact hy0
        · rw [if_neg hjp]
          dsimp only
          rw [if_neg (by omega), if_neg (by omega)]
          exact hy0
      · rw [sm_skip _ m' p (by omega)]
        dsimp only
        rw [if_pos rfl, mul_sm, ← sm_xor]
        rw [← hk0 k hk]
        refine sm_congr fun j _ => ?_
        have : (if skip p j = p then sm m' (fun j => gm (y j) (q j)) else if skip p j < p then y (skip p j) else y (skip p j - 1)) = y j := by
          unfold skip
          by_cases hjp : j < p
          · rw [if_pos hjp, if_neg (by omega), if_pos hjp]
          · rw [if_neg hjp, if_neg (by omega), if_neg (by omega)]
            rfl
        rw [this, gm_xor, gm_assoc]
        exact UInt8.xor_comm _ _
theorem LI.le {E : Nat → Nat → UInt8} (h : LI R C T) (g : Spans r C E R T) : R ≤ r := by
  rcases Nat.lt_or_ge r R with hlt | hge
  · have g' : ∀ i, ∃ c : Nat → UInt8, i < R → ∀ k, k < C → T i k = sm r (fun j => gm (c j) (E j k)) := fun i => by
      by_cases hi : i < R
      · obtain ⟨c, hc⟩ := g i hi
        exact ⟨c, fun _ => hc⟩
      · exact ⟨fun _ => 0, fun h => absurd h hi⟩
    obtain ⟨a, ha⟩ := Classical.axiomOfChoice g'
    obtain ⟨x, ⟨j, hj, hx⟩, hs⟩ := homog r R a hlt
    refine absurd (h x (fun k hk => ?_) j hj) hx
    have e1 : sm R (fun j => gm (x j) (T j k)) = sm R (fun i => sm r (fun l => gm (gm (x i) (a i l)) (E l k))) :=
      sm_congr fun i hi => by
        rw [ha i hi k hk, sm_mul]
        exact sm_congr fun l _ => (gm_assoc _ _ _).symm
    rw [e1, sm_comm]
    refine sm_zero fun l hl => ?_
    rw [← mul_sm, hs l hl, zero_gm]
  · exact hge
/-- A matrix is a product with r in between. -/
def Fac (R C : Nat) (M : Nat → Nat → UInt8) (r : Nat) : Prop := ∃ E : Nat → Nat → UInt8, Spans r C E R M
/-- r rows in the span are independent. -/
def Ind (R C : Nat) (M : Nat → Nat → UInt8) (r : Nat) : Prop := ∃ T : Nat → Nat → UInt8, Spans R C M r T ∧ LI r C T
def Rk (R C : Nat) (M : Nat → Nat → UInt8) (r : Nat) : Prop := Fac R C M r ∧ Ind R C M r
theorem Ind.le (h : Ind R C M r) (g : Fac R C M s) : r ≤ s := by
  obtain ⟨T, h1, h2⟩ := h
  obtain ⟨E, he⟩ := g
  exact h2.le (he.trans h1)
theorem Rk.eq (h : Rk R C M r) (g : Rk R C M s) : r = s := Nat.le_antisymm (h.2.le g.1) (g.2.le h.1)
theorem Fac.turn (h : Fac R C M r) : Fac C R (fun i j => M j i) r := by
  obtain ⟨E, he⟩ := h
  have g' : ∀ i, ∃ c : Nat → UInt8, i < R → ∀ k, k < C → M i k = sm r (fun j => gm (c j) (E j k)) := fun i => by
    by_cases hi : i < R
    · obtain ⟨c, hc⟩ := he i hi
      exact ⟨c, fun _ => hc⟩
    · exact ⟨fun _ => 0, fun h => absurd h hi⟩
  obtain ⟨L, hL⟩ := Classical.axiomOfChoice g'
  exact ⟨fun l i => L i l, fun k hk => ⟨fun l => E l k, fun i hi => (hL i hi k hk).trans (sm_congr fun l _ => gm_comm _ _)⟩⟩
theorem Rk.turn (h : Rk R C M r) (g : Rk C R (fun i j => M j i) s) : r = s := Nat.le_antisymm (h.2.le g.1.turn) (g.2.le h.1.turn)
theorem Fac.byRows : Fac R C M R := ⟨M, Spans.refl⟩
theorem Rk.le_rows (h : Rk R C M r) : r ≤ R := h.2.le Fac.byRows
theorem Rk.le_cols (h : Rk R C M r) : r ≤ C := h.2.le (Fac.byRows (M := fun i j => M j i)).turn
theorem Rk.congr (h : Rk R C M r) {M' : Nat → Nat → UInt8} (e : ∀ i k, i < R → k < C → M i k = M' i k) : Rk R C M' r := by
  obtain ⟨⟨E, he⟩, T, h1, h2⟩ := h
  exact ⟨⟨E, he.congr fun i k hi hk => (e i k hi hk).symm⟩, T, h1.congrM e, h2⟩
/-- Rows each with a column in which it has something and those behind it nothing. -/
theorem LI.stairs {a : Nat → Nat} (ha : ∀ l, l < R → a l < C) (h1 : ∀ l, l < R → T l (a l) ≠ 0) (h2 : ∀ l j, l < j → j < R → T j (a l) = 0) : LI R C T := by
  intro x hx
  have : ∀ n l, l < n → l < R → x l = 0 := by
    intro n
    induction n with
    | zero => intro l hl; omega
    | succ n ih =>
      intro l hl hR
      have hz := hx (a l) (ha l hR)
      rw [sm_one hR fun j hj hjl => by
        rcases Nat.lt_or_ge j l with hlt | hge
        · rw [ih j (by omega) hj, zero_gm]
        · rw [h2 l j (by omega) hj, gm_zero]] at hz
      rw [gm_comm] at hz
      exact gm_eq hz (h1 l hR)
  exact fun j hj => this (j + 1) j (by omega) hj
end
/-- The rows of Cauchy's matrix are independent. -/
theorem gi_sub {u v : UInt8} (hu : u ≠ 0) (hv : v ≠ 0) : gi u ^^^ gi v = gm (u ^^^ v) (gm (gi u) (gi v)) := by
  rw [xor_gm, ← gm_assoc, mul_gi hu, one_gm, gm_comm (gi u), ← gm_assoc, mul_gi hv, one_gm]
  exact UInt8.xor_comm _ _
theorem cauchyLI : ∀ (n : Nat) (x y : Nat → UInt8), (∀ i j, i < n → j < n → i ≠ j → x i ≠ x j) → (∀ i j, i < n → j < n → i ≠ j → y i ≠ y j) → (∀ i j, i < n → j < n → x i ≠ y j) → LI n n (fun i j => gi (x i ^^^ y j))
  | 0, x, y, _, _, _ => fun c _ j hj => by omega
  | n + 1, x, y, hx, hy, hxy => by
    intro c hc
    obtain ⟨d, hd⟩ : ∃ d : Nat → UInt8, ∀ i, d i = gm (c i) (x n ^^^ x i) := ⟨_, fun _ => rfl⟩
    obtain ⟨K, hK⟩ : ∃ K, sm (n + 1) c = K := ⟨_, rfl⟩
    have e1 : ∀ j, j < n + 1 → K ^^^ sm n (fun i => gm (d i) (gi (x i ^^^ y j))) = 0 := by
      intro j hj
      have h0 := congrArg (gm (x n ^^^ y j)) (hc j hj)
      have hn0 := x_ne (hxy n j (by omega) hj)
      rw [gm_zero] at h0
      unfold sm at h0
      dsimp only at h0
      rw [gm_xor, gm_comm (c n), ← gm_assoc, mul_gi hn0, one_gm, sm_mul] at h0
      rw [← h0, ← hK]
      show (sm n c ^^^ c n) ^^^ _ = _
      have e2 : sm n (fun i => gm (x n ^^^ y j) (gm (c i) (gi (x i ^^^ y j)))) = sm n c ^^^ sm n (fun i => gm (d i) (gi (x i ^^^ y j))) := by
        rw [← sm_xor]
        refine sm_congr fun i hi => ?_
        have hi0 := x_ne (hxy i j (by omega) hj)
        rw [hd, gm_assoc, ← gm_assoc (x n ^^^ y j), gm_comm (x n ^^^ y j), gm_assoc]
        have e3 : gm (x n ^^^ y j) (gi (x i ^^^ y j)) = 1 ^^^ gm (x n ^^^ x i) (gi (x i ^^^ y j)) := by
          rw [← mul_gi hi0, ← xor_gm]
          congr 1
          rw [show x i ^^^ y j ^^^ (x n ^^^ x i) = (x i ^^^ x i) ^^^ (x n ^^^ y j) by ac_rfl, x_self, z_xor]
        rw [e3, gm_xor, gm_one]
      rw [e2]
      ac_rfl
    have hn : ∀ i, i < n → c i = 0 := by
      intro i hi
      have hLI := cauchyLI n x y (fun i j hi hj => hx i j (by omega) (by omega)) (fun i j hi hj => hy i j (by omega) (by omega)) (fun i j hi hj => hxy i j (by omega) (by omega))
      have hz := hLI (fun i => gm (d i) (gi (x i ^^^ y n))) (fun j hj => ?_) i hi
      · have hg := gi_ne (x_ne (hxy i n (by omega) (by omega)))
        have hd0 : d i = 0 := gm_eq (by rw [gm_comm]; exact hz) hg
        rw [hd, gm_comm] at hd0
        exact gm_eq hd0 (x_ne (hx n i (by omega) (by omega) (by omega)))
      · have a1 := e1 j (by omega)
        have a2 := e1 n (by omega)
        have a3 : sm n (fun i => gm (d i) (gi (x i ^^^ y j))) ^^^ sm n (fun i => gm (d i) (gi (x i ^^^ y n))) = 0 := by
          rw [← x_eq a1, ← x_eq a2, x_self]
        rw [← sm_xor] at a3
        have hjn := x_ne (hy j n (by omega) (by omega) (by omega))
        refine gm_eq ?_ hjn
        rw [sm_mul, ← a3]
        refine sm_congr fun i hi => ?_
        rw [← gm_xor, gi_sub (x_ne (hxy i j (by omega) (by omega))) (x_ne (hxy i n (by omega) (by omega)))]
        rw [show x i ^^^ y j ^^^ (x i ^^^ y n) = (x i ^^^ x i) ^^^ (y j ^^^ y n) by ac_rfl, x_self, z_xor]
        rw [gm_assoc, ← gm_assoc, ← gm_assoc, gm_comm (y j ^^^ y n) (d i), gm_assoc, gm_assoc, gm_comm (gi (x i ^^^ y j))]
    intro j hj
    by_cases hjn : j = n
    · subst hjn
      have h0 := hc j (by omega)
      unfold sm at h0
      dsimp only at h0
      rw [sm_zero fun i hi => by rw [hn i hi, zero_gm], z_xor, gm_comm] at h0
      exact gm_eq h0 (gi_ne (x_ne (hxy j j (by omega) (by omega))))
    · exact hn j (by omega)
end Lin
