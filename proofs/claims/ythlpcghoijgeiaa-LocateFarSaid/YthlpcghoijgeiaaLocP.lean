/- Rows that hold: any k of them tell the others. Plain Lean, no program. -/
import Derived.Test.YthlpcghoijgeiaaLoF
set_option linter.unusedVariables false
set_option linter.unusedSimpArgs false
namespace Loc
open Lin Cib
def fx (k i t : Nat) : UInt8 := UInt8.ofNat (Cod.fac k i t)
theorem fx_toNat (k i t : Nat) : (fx k i t).toNat = Cod.fac k i t := Cod.ofNat_toNat (Cod.fac_lt _ _ _)
theorem fx_data {k i t : Nat} (hi : i < k) : fx k i t = dl i t := by
  unfold fx Cod.fac dl
  rw [if_pos hi]
  split <;> rfl
theorem fx_par {k i t : Nat} (hi : k ≤ i) (hi2 : i < 256) (ht : t < k) : fx k i t = gi (UInt8.ofNat i ^^^ UInt8.ofNat t) := by
  apply ext8
  rw [fx_toNat, gi_toNat, UInt8.toNat_xor, Cod.ofNat_toNat hi2, Cod.ofNat_toNat (by omega)]
  unfold Cod.fac divA
  rw [if_neg (by omega), if_neg]
  intro h
  have h2 : i ^^^ (i ^^^ t) = i := by rw [h, Nat.xor_zero]
  rw [← Nat.xor_assoc, Nat.xor_self, Nat.zero_xor] at h2
  omega
def dt (D : List (List UInt8)) (q t : Nat) : UInt8 := (D.getD t []).getD q 0
theorem shB_sm (k : Nat) (D : List (List UInt8)) (i q : Nat) : ∀ p, UInt8.ofNat (Cod.shB k D i q p) = sm p (fun t => gm (fx k i t) (dt D q t))
  | 0 => rfl
  | p + 1 => by
    rw [sm, ← shB_sm k D i q p]
    apply ext8
    rw [UInt8.toNat_xor, Cod.ofNat_toNat (Cod.shB_lt _ _ _ _ _), Cod.ofNat_toNat (Cod.shB_lt _ _ _ _ _), gm_toNat, fx_toNat]
    rfl
theorem shard_get {k q : Nat} {D : List (List UInt8)} (i : Nat) (hD : D.length = k) (hq : q < Cod.len0 D) : (Cod.shard k D i).getD q 0 = sm k (fun t => gm (fx k i t) (dt D q t)) := by
  rw [← shB_sm, List.getD_eq_getElem?_getD, List.getElem?_eq_getElem (by rw [Cod.shard_length]; exact hq), Option.getD_some]
  simp only [Cod.shard, List.getElem_map, List.getElem_range, hD]
theorem sm_split (f : Nat → UInt8) (a : Nat) : ∀ b, sm (a + b) f = sm a f ^^^ sm b (fun i => f (a + i))
  | 0 => by
    show sm a f = sm a f ^^^ 0
    rw [x_zero]
  | b + 1 => by
    show sm (a + b) f ^^^ f (a + b) = sm a f ^^^ (sm b (fun i => f (a + i)) ^^^ f (a + b))
    rw [sm_split f a b, UInt8.xor_assoc]
/-- Rising numbers: those below a bound come first. -/
theorem thr (u : Nat → Nat) (c : Nat) : ∀ k, (∀ i j, i < j → j < k → u i < u j) → ∃ d, d ≤ k ∧ ∀ j, j < k → (u j < c ↔ j < d)
  | 0, _ => ⟨0, Nat.le_refl _, fun j h => by omega⟩
  | k + 1, hu => by
    obtain ⟨d, hd, h⟩ := thr u c k (fun i j hij hj => hu i j hij (by omega))
    by_cases hc : u k < c
    · refine ⟨k + 1, Nat.le_refl _, fun j hj => ⟨fun _ => hj, fun _ => ?_⟩⟩
      by_cases hjk : j = k
      · rw [hjk]
        exact hc
      · have := hu j k (by omega) (by omega)
        omega
    · refine ⟨d, by omega, fun j hj => ?_⟩
      by_cases hjk : j = k
      · subst hjk
        constructor
        · intro h; exact absurd h hc
        · intro h; omega
      · exact h j (by omega)
theorem filter_ne_len {M : List Nat} (hM : M.Nodup) (a : Nat) : M.length ≤ (M.filter (fun t => t != a)).length + 1 := by
  rw [← hM.erase_eq_filter, List.length_erase]
  split <;> omega
/-- Of numbers that stand once each, so many stay when others are taken away. -/
theorem drop_len {L : List Nat} (hL : L.Nodup) : ∀ l : List Nat, L.length ≤ (L.filter (fun t => !l.contains t)).length + l.length
  | [] => by
    rw [show L.filter (fun t => !([] : List Nat).contains t) = L from List.filter_eq_self.2 (by simp)]
    simp
  | a :: l => by
    have ih := drop_len hL l
    have h1 := filter_ne_len (hL.filter (fun t => !l.contains t)) a
    have e : (L.filter (fun t => !l.contains t)).filter (fun t => t != a) = L.filter (fun t => !(a :: l).contains t) := by
      rw [List.filter_filter]
      apply List.filter_congr
      intro t _
      simp only [List.contains_cons, Bool.not_or]
      rfl
    rw [e] at h1
    rw [List.length_cons]
    omega
theorem genLI {k : Nat} {u : Nat → Nat} (hu : ∀ i j, i < j → j < k → u i < u j) (hlt : ∀ j, j < k → u j < 256) (hk : k ≤ 256) : LI k k (fun j t => fx k (u j) t) := by
  intro x hx
  obtain ⟨d, hd, hdk⟩ := thr u k k hu
  obtain ⟨l, hl⟩ : ∃ l, (List.range d).map u = l := ⟨_, rfl⟩
  obtain ⟨ms, hms⟩ : ∃ ms, (List.range k).filter (fun t => !l.contains t) = ms := ⟨_, rfl⟩
  have hml : k - d ≤ ms.length := by
    have := drop_len (List.nodup_range (n := k)) l
    rw [hms, ← hl, List.length_map, List.length_range, List.length_range] at this
    omega
  have hmm : ∀ i (h : i < ms.length), ms[i] < k ∧ ∀ j, j < d → u j ≠ ms[i] := by
    intro i h
    obtain ⟨t, ht⟩ : ∃ t, ms[i] = t := ⟨_, rfl⟩
    have hm : t ∈ ms := by rw [← ht]; exact List.getElem_mem h
    rw [ht]
    rw [← hms, List.mem_filter, List.mem_range] at hm
    refine ⟨hm.1, fun j hj e => ?_⟩
    have h2 := hm.2
    rw [← e] at h2
    have : u j ∈ l := by
      rw [← hl]
      exact List.mem_map_of_mem (List.mem_range.2 hj)
    simp [this] at h2
  have hmn : ms.Nodup := by
    rw [← hms]
    exact List.nodup_range.filter _
  have hpar : ∀ i, i < k - d → x (d + i) = 0 := by
    refine cauchyLI (k - d) (fun i => UInt8.ofNat (u (d + i))) (fun i => UInt8.ofNat (ms.getD i 0)) ?_ ?_ ?_ (fun i => x (d + i)) ?_
    · intro i j hi hj hne e
      have h1 := hlt (d + i) (by omega)
      have h2 := hlt (d + j) (by omega)
      have e' := congrArg UInt8.toNat e
      rw [Cod.ofNat_toNat h1, Cod.ofNat_toNat h2] at e'
      rcases Nat.lt_or_gt_of_ne hne with h | h
      · have := hu (d + i) (d + j) (by omega) (by omega); omega
      · have := hu (d + j) (d + i) (by omega) (by omega); omega
    · intro i j hi hj hne e
      have hi' : i < ms.length := by omega
      have hj' : j < ms.length := by omega
      simp only [List.getD_eq_getElem?_getD, List.getElem?_eq_getElem hi', List.getElem?_eq_getElem hj', Option.getD_some] at e
      have h1 := (hmm i hi').1
      have h2 := (hmm j hj').1
      have e' := congrArg UInt8.toNat e
      rw [Cod.ofNat_toNat (by omega), Cod.ofNat_toNat (by omega)] at e'
      have hp := List.pairwise_iff_getElem.1 hmn
      rcases Nat.lt_or_gt_of_ne hne with h | h
      · exact hp i j hi' hj' h e'
      · exact hp j i hj' hi' h e'.symm
    · intro i j hi hj e
      have hj' : j < ms.length := by omega
      simp only [List.getD_eq_getElem?_getD, List.getElem?_eq_getElem hj', Option.getD_some] at e
      have h1 := hlt (d + i) (by omega)
      have h2 := (hmm j hj').1
      have h3 := (hdk (d + i) (by omega))
      have e' := congrArg UInt8.toNat e
      rw [Cod.ofNat_toNat h1, Cod.ofNat_toNat (by omega)] at e'
      omega
    · intro t ht
      have ht' : t < ms.length := by omega
      obtain ⟨h1, h2⟩ := hmm t ht'
      have hxt := hx ms[t] h1
      have hkd : k = d + (k - d) := by omega
      rw [hkd, sm_split] at hxt
      rw [← hkd] at hxt
      have hz : sm d (fun j => gm (x j) (fx k (u j) ms[t])) = 0 := sm_zero fun j hj => by
        rw [fx_data ((hdk j (by omega)).2 hj), dl_ne (h2 j hj), gm_zero]
      rw [hz, z_xor] at hxt
      rw [← hxt]
      refine sm_congr fun i hi => ?_
      simp only [List.getD_eq_getElem?_getD, List.getElem?_eq_getElem ht', Option.getD_some]
      rw [fx_par (by have := hdk (d + i) (by omega); omega) (hlt _ (by omega)) h1]
  intro j hj
  by_cases hjd : j < d
  · have huk := (hdk j hj).2 hjd
    have hxt := hx (u j) huk
    rw [sm_one hj] at hxt
    · simp only [fx_data huk, dl_same, gm_one] at hxt
      exact hxt
    · intro i hi hne
      by_cases hid : i < d
      · have h1 := (hdk i hi).2 hid
        show gm (x i) (fx k (u i) (u j)) = 0
        rw [fx_data h1, dl_ne, gm_zero]
        intro e
        rcases Nat.lt_or_gt_of_ne hne with h | h
        · have := hu i j h hj; omega
        · have := hu j i h hi; omega
      · have := hpar (i - d) (by omega)
        rw [show d + (i - d) = i from by omega] at this
        rw [this, zero_gm]
  · have := hpar (j - d) (by omega)
    rwa [show d + (j - d) = j from by omega] at this
theorem colZero {n : Nat} {T : Nat → Nat → UInt8} (h : LI n n T) {v : Nat → UInt8} (hv : ∀ j, j < n → sm n (fun t => gm (T j t) (v t)) = 0) : ∀ t, t < n → v t = 0 := by
  intro t ht
  obtain ⟨x, ⟨j0, hj0, hne⟩, hx⟩ := homog n (n + 1) (fun j s => if j < n then T j s else dl t s) (Nat.lt_succ_self n)
  have hx' : ∀ s, s < n → sm n (fun j => gm (x j) (T j s)) ^^^ gm (x n) (dl t s) = 0 := by
    intro s hs
    have h1 := hx s hs
    have h2 : sm (n + 1) (fun j => gm (x j) (if j < n then T j s else dl t s)) = sm n (fun j => gm (x j) (T j s)) ^^^ gm (x n) (dl t s) := by
      rw [sm]
      simp only [Nat.lt_irrefl, if_false]
      congr 1
      exact sm_congr fun j hj => by rw [if_pos hj]
    rw [h2] at h1
    exact h1
  have hxn : x n ≠ 0 := by
    intro e
    have h0 : ∀ j, j < n → x j = 0 := h x fun s hs => by
      have := hx' s hs
      rw [e, zero_gm, x_zero] at this
      exact this
    by_cases hj : j0 = n
    · rw [hj] at hne
      exact hne e
    · exact hne (h0 j0 (by omega))
  refine gm_eq ?_ hxn
  have h1 : gm (x n) (v t) = sm n (fun s => gm (gm (x n) (dl t s)) (v s)) := by
    rw [← sm_dl ht v, sm_mul]
    exact sm_congr fun s _ => (gm_assoc _ _ _).symm
  rw [h1]
  have h2 : sm n (fun s => gm (gm (x n) (dl t s)) (v s)) = sm n (fun s => sm n (fun j => gm (x j) (gm (T j s) (v s)))) := sm_congr fun s hs => by
    rw [← x_eq (hx' s hs), mul_sm]
    exact sm_congr fun j _ => gm_assoc _ _ _
  rw [h2, sm_comm]
  refine sm_zero fun j hj => ?_
  rw [← sm_mul, hv j hj, gm_zero]
/-- The rows of data are what k shards tell. -/
theorem sameD {k W : Nat} {u : Nat → Nat} (hu : ∀ i j, i < j → j < k → u i < u j) (hlt : ∀ j, j < k → u j < 256) (hk : k ≤ 256) (h0 : 0 < k) {D E : List (List UInt8)} (hD : D.length = k) (hE : E.length = k) (hDw : ∀ r ∈ D, r.length = W) (hEw : ∀ r ∈ E, r.length = W)
    (h : ∀ j, j < k → Cod.shard k D (u j) = Cod.shard k E (u j)) : D = E := by
  have hlD : Cod.len0 D = W := by rw [Cod.len0_eq (by omega)]; exact hDw _ (List.getElem_mem _)
  have hlE : Cod.len0 E = W := by rw [Cod.len0_eq (by omega)]; exact hEw _ (List.getElem_mem _)
  apply List.ext_getElem (by omega)
  intro t h1 h2
  apply List.ext_getElem
  · rw [hDw _ (List.getElem_mem h1), hEw _ (List.getElem_mem h2)]
  · intro q h3 h4
    have hq : q < W := by rw [hDw _ (List.getElem_mem h1)] at h3; exact h3
    have hz := colZero (genLI hu hlt hk) (v := fun t => dt D q t ^^^ dt E q t) (fun j hj => by
      have e : sm k (fun t => gm (fx k (u j) t) (dt D q t ^^^ dt E q t)) = sm k (fun t => gm (fx k (u j) t) (dt D q t)) ^^^ sm k (fun t => gm (fx k (u j) t) (dt E q t)) := by
        rw [← sm_xor]
        exact sm_congr fun t _ => gm_xor _ _ _
      rw [e, ← shard_get (u j) hD (by rw [hlD]; exact hq), ← shard_get (u j) hE (by rw [hlE]; exact hq), h j hj, x_self]) t (by omega)
    have e := x_eq hz
    simpa [dt, List.getD, h1, h2, h3, h4] using e
theorem sumTo_sm (f : List UInt8) (D : List (List UInt8)) (W : Nat) : ∀ p q, q < W → (Cod.sumTo f D W p).getD q 0 = sm p (fun j => gm (f.getD j 0) (dt D q j))
  | 0, q, hq => by simp [Cod.sumTo, List.getD, hq, sm]
  | p + 1, q, hq => by
    rw [Cod.sumTo, foB_ent _ _ _ (by rw [Cod.sumTo_length]; exact hq), sumTo_sm f D W p q hq]
    rfl
/-- What is made anew by an inverse. -/
theorem rebuilt {k W : Nat} {u : Nat → Nat} {M X : List UInt8} (i : Nat) (hM : ∀ j t, j < k → t < k → fl k M j t = fx k (u j) t) (hX : Inv k (fl k M) (fl k X)) {D rows : List (List UInt8)} (h0 : 0 < k) (hD : D.length = k) (hDw : ∀ r ∈ D, r.length = W)
    (hr : ∀ j, j < k → rows.getD j [] = Cod.shard k D (u j)) : Cod.sumTo (Lin.mulL 1 k k (Cod.facRow k i) X) rows W k = Cod.shard k D i := by
  have hlD : Cod.len0 D = W := by rw [Cod.len0_eq (by omega)]; exact hDw _ (List.getElem_mem _)
  apply List.ext_getElem
  · rw [Cod.sumTo_length, Cod.shard_length, hlD]
  · intro q h1 h2
    have hq : q < W := by rw [Cod.sumTo_length] at h1; exact h1
    have e1 : (Cod.sumTo (Lin.mulL 1 k k (Cod.facRow k i) X) rows W k)[q] = (Cod.sumTo (Lin.mulL 1 k k (Cod.facRow k i) X) rows W k).getD q 0 := by simp [List.getD, h1]
    have e2 : (Cod.shard k D i)[q] = (Cod.shard k D i).getD q 0 := by simp [List.getD, h2]
    rw [e1, e2, sumTo_sm _ _ _ _ _ hq, shard_get i hD (by rw [hlD]; exact hq)]
    have hP : ∀ j, j < k → (Lin.mulL 1 k k (Cod.facRow k i) X).getD j 0 = mm k (fun _ s => fx k i s) (fl k X) 0 j := by
      intro j hj
      have h3 := mulL_fl (ra := 1) (ca := k) (A := Cod.facRow k i) (B := X) (show 0 < 1 by omega) hj
      have h4 : fl k (Lin.mulL 1 k k (Cod.facRow k i) X) 0 j = (Lin.mulL 1 k k (Cod.facRow k i) X).getD j 0 := by unfold fl; rw [Nat.zero_mul, Nat.zero_add]
      rw [← h4, h3]
      refine mm_congr (fun s hs => ?_) (fun s hs => rfl)
      unfold fl
      rw [Nat.zero_mul, Nat.zero_add]
      apply ext8
      rw [Cod.facRow_get k i hs, fx_toNat]
    have hV : ∀ j, j < k → dt rows q j = mm k (fl k M) (fun t _ => dt D q t) j 0 := by
      intro j hj
      unfold dt
      rw [hr j hj, shard_get (u j) hD (by rw [hlD]; exact hq)]
      exact sm_congr fun t ht => by rw [hM j t hj ht]; rfl
    have hL : sm k (fun j => gm ((Lin.mulL 1 k k (Cod.facRow k i) X).getD j 0) (dt rows q j)) = mm k (mm k (fun _ s => fx k i s) (fl k X)) (mm k (fl k M) (fun t _ => dt D q t)) 0 0 := sm_congr fun j hj => by rw [hP j hj, hV j hj]
    rw [hL, ← mm_assoc]
    show sm k (fun t => gm (mm k (mm k (fun _ s => fx k i s) (fl k X)) (fl k M) 0 t) (dt D q t)) = _
    refine sm_congr fun t ht => ?_
    rw [mm_assoc]
    have h5 : mm k (fun _ s => fx k i s) (mm k (fl k X) (fl k M)) 0 t = fx k i t := one_mm ht fun s hs => hX.l s t hs ht
    rw [h5]
/-- The numbers below n but some. -/
def but (n : Nat) (l : List Nat) : List Nat := (List.range n).filter (fun t => !l.contains t)
theorem but_mem {n t : Nat} {l : List Nat} : t ∈ but n l ↔ t < n ∧ t ∉ l := by simp [but]
theorem but_up (n : Nat) (l : List Nat) : (but n l).Pairwise (· < ·) := List.Pairwise.filter _ List.pairwise_lt_range
theorem but_len (n : Nat) (l : List Nat) : n ≤ (but n l).length + l.length := by
  have := drop_len (List.nodup_range (n := n)) l
  rw [List.length_range] at this
  exact this
/-- Rows that hold are the same where they are the same in all but few places. -/
theorem nearSame {k m W : Nat} (h0 : 0 < k) (hs : k + m ≤ 255) {D E : List (List UInt8)} (hD : D.length = k) (hE : E.length = k) (hDw : ∀ r ∈ D, r.length = W) (hEw : ∀ r ∈ E, r.length = W) (l : List Nat) (hl : l.length ≤ m)
    (h : ∀ i, i < k + m → i ∉ l → Cod.shard k D i = Cod.shard k E i) : D = E := by
  have hlen := but_len (k + m) l
  have hmem : ∀ j (hj : j < (but (k + m) l).length), (but (k + m) l)[j] < k + m ∧ (but (k + m) l)[j] ∉ l := fun j hj => but_mem.1 (List.getElem_mem hj)
  have hup := List.pairwise_iff_getElem.1 (but_up (k + m) l)
  have hg : ∀ j, j < k → ∃ hj : j < (but (k + m) l).length, (but (k + m) l).getD j 0 = (but (k + m) l)[j] := fun j hj => ⟨by omega, by simp [List.getD, show j < (but (k + m) l).length by omega]⟩
  refine sameD (u := fun j => (but (k + m) l).getD j 0) ?_ ?_ (by omega) h0 hD hE hDw hEw ?_
  · intro i j hij hj
    obtain ⟨hi', e1⟩ := hg i (by omega)
    obtain ⟨hj', e2⟩ := hg j hj
    simp only [e1, e2]
    exact hup i j hi' hj' hij
  · intro j hj
    obtain ⟨hj', e2⟩ := hg j hj
    simp only [e2]
    have := (hmem j hj').1
    omega
  · intro j hj
    obtain ⟨hj', e2⟩ := hg j hj
    simp only [e2]
    exact h _ (hmem j hj').1 (hmem j hj').2
end Loc
