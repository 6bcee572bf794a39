/- Split, Join. -/
import Derived.Test.YtmfilmkdaokbbaaCodE
import Derived.Deep.RegionWith
set_option linter.unusedVariables false
set_option linter.unusedSimpArgs false
set_option maxRecDepth 40000
namespace Cib
open Go Go.RowKit Go.Proofs
/-- A text's piece, filled up with noughts. -/
def Cod.pad (t : List UInt8) (W : Nat) : List UInt8 := t ++ List.replicate (W - t.length) 0
theorem Cod.pad_length (t : List UInt8) (W : Nat) (h : t.length ≤ W) : (Cod.pad t W).length = W := by simp [Cod.pad]; omega
def Cod.cutRow (bs : List UInt8) (W i : Nat) : List UInt8 := Cod.pad ((bs.drop (i * W)).take W) W
theorem Cod.cutRow_length (bs : List UInt8) (W i : Nat) : (Cod.cutRow bs W i).length = W := Cod.pad_length _ _ (by rw [List.length_take]; omega)
def Cod.splitD (bs : List UInt8) (W n : Nat) : List (List UInt8) := (List.range n).map (Cod.cutRow bs W)
theorem Cod.splitD_next (bs : List UInt8) (W n : Nat) : Cod.splitD bs W (n + 1) = Cod.splitD bs W n ++ [Cod.cutRow bs W n] := by simp [Cod.splitD, List.range_succ]
theorem Cod.splitD_length (bs : List UInt8) (W n : Nat) : (Cod.splitD bs W n).length = n := by simp [Cod.splitD]
theorem Cod.drop_next (bs : List UInt8) (W i : Nat) : (bs.drop (i * W)).drop (min (bs.drop (i * W)).length W) = bs.drop ((i + 1) * W) := by
  have e : (i + 1) * W = i * W + W := Nat.succ_mul i W
  rw [e, ← List.drop_drop]
  by_cases h : (bs.drop (i * W)).length ≤ W
  · rw [Nat.min_eq_left h, List.drop_length, List.drop_eq_nil_of_le h]
  · rw [Nat.min_eq_right (by omega)]
theorem RowsNew.setCell {w : World} {base : Nat} {L : List RowB} (h : RowsNew w base L) {p : Addr} {t : TypeId} (hp : Ty w p.block t) (ht : t ≠ 5) (u : Value) : RowsNew (w.setCell p u) base L :=
  ⟨fun r hr => ownsRow_setCell_other (h.own r hr) (fun he => by
    rcases (h.own r hr).2 with ⟨h0, _⟩ | ⟨g, cap, cur, hv, _, h2, _⟩
    · rw [h0] at he
      simp [Value.ownBlock] at he
    · rw [hv] at he
      simp [Value.ownBlock] at he
      subst he
      exact ht (hp.one (w := w) ⟨_, _, h2⟩)) u, h.apart⟩
/-- Bytes put into a fresh row of noughts that has room: what the whole row holds. -/
theorem run_pad (W : World) (g n : Nat) (hg : Blk W g 5 (madeCells #[.int .u8 0] n)) (B : Nat) (A : Option Addr) (t : List UInt8) (m c : Nat) (hr : Rd W B A (t.map bv)) (hm : t.length = m) (hmn : m ≤ n) (hn : n ≤ maxLen) (base : Nat) (hb : base ≤ g) (ty : TypeId) :
    ∃ W', (Builtin.append_ #[22, 22] ty #[.slice (some ⟨g, 0, none⟩) 0 n, .slice A m c]).run Try.prog W = .ok (.slice (some ⟨g, 0, none⟩) m n) W' ∧
      W'.ownsRow base 5 1 (.slice (some ⟨g, 0, none⟩) n n) n ((Cod.pad t n).map bv) ∧ Below g W W' := by
  obtain ⟨i0, hi, hz0, hz1, hz2⟩ := info_parts infoByte
  have hz : madeCells #[Value.int .u8 0] n = ((List.replicate n (0 : UInt8)).map bv).toArray := by
    apply Array.ext
    · simp [size_madeCells]
    · intro j h1 h2
      simp [madeCells, bv, Nat.mod_one]
  rcases A with _ | ad
  · have ht : t = [] := by
      rcases t with _ | ⟨x, xs⟩
      · rfl
      · obtain ⟨ad, h, _⟩ := hr (by simp)
        cases h
    subst ht
    have hm0 : m = 0 := by simpa using hm.symm
    subst hm0
    have hown : W.ownsRow base 5 1 (.slice (some ⟨g, 0, none⟩) 0 n) 0 [] := ⟨rfl, .inr ⟨g, n, _, rfl, hb, hg, Nat.zero_le _, hn, by simp [size_madeCells], by simp⟩⟩
    refine ⟨W, run_app_nil W base 22 ty 5 i0 Try.underlying22 hi _ 0 [] hown c, ⟨by simp [Cod.pad], .inr ⟨g, n, _, rfl, hb, hg, Nat.le_refl _, hn, by simp [size_madeCells], ?_⟩⟩, Below.refl _ _⟩
    rw [hz]
    simp [Cod.pad]
  · have hcells : ∀ j u, (t.map bv)[j]? = some u → W.cell? (ad.add j) = some u := by
      intro j u hu
      obtain ⟨hj, he⟩ := List.getElem?_eq_some_iff.1 hu
      obtain ⟨ad', h, _, hc⟩ := hr (by intro e; rw [e] at hj; simp at hj)
      injection h with h
      subst h
      rw [hc j hj, he]
    have hrun := run_append_room (P := Try.prog) W 22 ty 5 i0 Try.underlying22 hi g 0 n _ hg ad m c (t.map bv) (by rw [hz1]; simpa using hm) hcells one_bytes (by omega) (by rw [hz1, size_madeCells]; simpa [hm] using hmn)
    rw [Nat.zero_add] at hrun
    refine ⟨_, hrun, ⟨by simp [Cod.pad]; omega, .inr ⟨g, n, _, rfl, hb, setRow_heap W g _ _ _ (0, 0) hg, Nat.le_refl _, hn, ?_, ?_⟩⟩, below_setRow (Below.refl _ _) (Nat.le_refl _) _⟩
    · rw [hz, hz1]
      simp [hm]
      omega
    · rw [hz, hz1]
      simp only [Nat.zero_mul, List.take_zero, List.nil_append, Nat.zero_add, Cod.pad, List.map_append, List.map_replicate]
      rw [List.take_of_length_le (by simp; omega)]
      simp
theorem wp_append {w w' : World} {o : Oper} {a : Act} {K : Act → World → Prop} {Q : Exit → Act → World → Prop} (s x : Operand) (t : TypeId)
    (ho : o.op = .call { callee := .builtin .append, args := #[s, x], argTypes := #[t, t] }) (v u r : Value) (hs : a.eval s = v) (hx : a.eval x = u) (hrun : (Builtin.append_ #[t, t] o.type #[v, u]).run Try.prog w = .ok r w') (h : K (a.put o.dst r) w') :
    o.wp Try.prog a w K Q := by
  unfold Oper.wp execOp
  simp only [ho, resolve, invoke, builtin, Sem.run_bind, Sem.run_pure, Result.andThen_ok, List.map_toArray, List.map_cons, List.map_nil, hs, hx, hrun]
  exact h
/-- Split under way. -/
structure SplI (w : World) (bs : List UInt8) (W k i : Nat) (L : List RowB) (wr : World) : Prop where
  bs : L.map (·.bs) = Cod.splitD bs W i
  own : wr.ownsRow w.heap.size 22 1 (.slice (some ⟨w.heap.size, 0, none⟩) k k) k (L.map RowB.v ++ List.replicate (k - i) (.slice none 0 0))
  rows : RowsNew wr w.heap.size L
  below : Below w.heap.size w wr
theorem SplI.len {w wr : World} {bs : List UInt8} {W k i : Nat} {L : List RowB} (h : SplI w bs W k i L wr) : L.length = i := by
  have := congrArg List.length h.bs
  rw [Cod.splitD_length, List.length_map] at this
  exact this
theorem SplI.cells {w wr w2 : World} {bs : List UInt8} {W k i : Nat} {L : List RowB} (h : SplI w bs W k i L wr) (hi : i < k) (hb : Below wr.heap.size wr w2) :
    (∃ v, w2.cell? ⟨w.heap.size, i, none⟩ = some v) ∧ w2.frozen? ⟨w.heap.size, i, none⟩ = false := by
  have ho := own_via h.own hb
  refine ⟨?_, ho.frozenAt i⟩
  have hl : (L.map RowB.v ++ List.replicate (k - i) (Value.slice none 0 0)).length = k := by
    have := h.len
    simp
    omega
  exact ⟨_, (ho.cellAt i (by omega)).trans (List.getElem?_eq_getElem (by rw [hl]; exact hi))⟩
theorem SplI.push {w wr w2 : World} {bs : List UInt8} {W k i : Nat} {L : List RowB} (h : SplI w bs W k i L wr) (hi : i < k) (hb : Below wr.heap.size wr w2) {r : RowB} (hr : r.bs = Cod.cutRow bs W i)
    (ho : w2.ownsRow wr.heap.size 5 1 (.slice r.A r.n r.c) r.n (r.bs.map bv)) : SplI w bs W k (i + 1) (L ++ [r]) (w2.setCell ⟨w.heap.size, i, none⟩ r.v) where
  bs := by rw [List.map_append, h.bs, Cod.splitD_next, ← hr]; rfl
  own := by
    have h1 := (World.ownsRow.stored (own_via h.own hb) i r.v).1
    have e : (L.map RowB.v ++ List.replicate (k - i) (Value.slice none 0 0)).set i r.v = (L ++ [r]).map RowB.v ++ List.replicate (k - (i + 1)) (Value.slice none 0 0) := by
      have hl := h.len
      rw [List.set_append_right _ _ (by simp; omega), show k - i = (k - (i + 1)) + 1 from by omega, List.replicate_succ]
      simp [hl]
    rw [e] at h1
    exact h1
  rows := (h.rows.push hb h.below.size ho).setCell (own_block (own_via h.own hb)) rowNe _
  below := (h.below.via hb).setCell (Nat.le_refl _) _
set_option maxHeartbeats 1600000 in
theorem cdSplitNo {w : World} {g gf k m c : Nat} {A : Option Addr} (h : Cdr w g gf k m A c) (Ab : Option Addr) (nb cb : Nat) (W : Int) (hnb : nb ≤ maxLen) (hW : W < 1 ∨ 65536 < W ∨ (1 ≤ W ∧ W ≤ 65536 ∧ (k : Int) * W < nb)) :
    Calls Try.prog 22 #[.pointer (some ⟨g, 0, none⟩), .slice Ab nb cb, .int .i64 W] w fun e w' => e = .returned (.tuple #[.slice none 0 0, .int .i64 (if W < 1 ∨ 65536 < W then 2 else 260)]) ∧ w' = w := by
  unfold maxLen at hnb
  have HN := Lib.hid (cdNone h)
  have h0 := h.c0
  have hkm := h.hs
  clear h
  rcases hW with hW | hW | ⟨h1, h2, h3⟩
  · rw [if_pos (.inl hW)]
    go_enter Try.func22, Try.ntmps22
    go_wp2_with (go_at_call 44; refine HN.out.mono ?_; rintro e w' ⟨rfl, rfl⟩)
    first | go_ret2 | go_ret
    exact ⟨rfl, rfl⟩
  · rw [if_pos (.inr hW)]
    go_enter Try.func22, Try.ntmps22
    go_wp2_with (go_at_call 44; refine HN.out.mono ?_; rintro e w' ⟨rfl, rfl⟩)
    first | go_ret2 | go_ret
    exact ⟨rfl, rfl⟩
  · rw [if_neg (by omega)]
    obtain ⟨T, hT⟩ : ∃ T, (k : Int) * W = T := ⟨_, rfl⟩
    have hTb : 0 ≤ T ∧ T ≤ 255 * 65536 := by
      rw [← hT]
      exact ⟨Int.mul_nonneg (by omega) (by omega), Int.mul_le_mul (by omega) h2 (by omega) (by omega)⟩
    rw [hT] at h3
    go_enter Try.func22, Try.ntmps22
    go_wp2_with (go_at_call 44; refine HN.out.mono ?_; rintro e w' ⟨rfl, rfl⟩)
    first | go_ret2 | go_ret
    exact ⟨rfl, rfl⟩
set_option maxHeartbeats 3200000 in
theorem cdSplit {w : World} {g gf k m c : Nat} {A : Option Addr} (h : Cdr w g gf k m A c) (B : Nat) (Ab : Option Addr) (nb cb W : Nat) (bs : List UInt8) (hr : Rd w B Ab (bs.map bv)) (hB : B ≤ w.heap.size) (hn : bs.length = nb) (hcb : nb ≤ cb) (hcm : cb ≤ maxLen) (hW : 1 ≤ W ∧ W ≤ 65536) (hle : nb ≤ k * W) :
    Calls Try.prog 22 #[.pointer (some ⟨g, 0, none⟩), .slice Ab nb cb, .int .i64 (W : Int)] w (NewR (Cod.splitD bs W k) 0 w) := by
  have HN := Lib.hid (cdNone h)
  have h0 := h.c0
  have hkm := h.hs
  obtain ⟨T, hT⟩ : ∃ T, k * W = T := ⟨_, rfl⟩
  have hTb : T ≤ 255 * 65536 := by
    rw [← hT]
    exact Nat.mul_le_mul (by omega) hW.2
  have hmul : (k : Int) * (W : Int) = (T : Int) := by rw [← hT]; simp
  rw [hT] at hle
  have hmk := makeR k k (Nat.le_refl _) (by omega)
  obtain ⟨i0, hi, hz0, hz1, hz2⟩ := info_parts infoByte
  have hmk2 : ∀ V : World, (Instr.makeSlice 22 (.int .i64 0) (.int .i64 (W : Int))).run Try.prog V = .ok (.slice (some ⟨V.heap.size, 0, none⟩) 0 W) (V.alloc (.cells (madeCells #[.int .u8 0] W) 5)) := fun V => by
    have := run_make (P := Try.prog) V 22 5 i0 (.int .u8 0) Try.underlying22 hi hz0 .i64 .i64 0 (W : Int) (by omega) (by omega) (by rw [hz2]; omega) (by omega)
    rw [hz1, Nat.mul_one, Int.toNat_natCast] at this
    exact this
  have HR := Lib.hid hr
  have HNB := Lib.hid hn
  have hal : Below w.heap.size w (w.alloc (.cells (madeCells #[.slice none 0 0] k) 22)) := (Below.refl _ _).alloc (Nat.le_refl _) _
  have hC := h.below hal
  have h02 := hC.c0
  have e1 : decide ((W : Int) < 1) = false := by simp; omega
  have e2 : decide ((65536 : Int) < (W : Int)) = false := by simp; omega
  have e3 : decide (T < nb) = false := by simp; omega
  have e4 : decide ((T : Int) < (nb : Int)) = false := by simp; omega
  unfold maxLen at hcm
  clear hT h hr hn hal hC hi hz0 hz1 hz2
  go_enter Try.func22, Try.ntmps22
  go_wp2_with (go_at_call 44; refine HN.out.mono ?_; rintro e w' ⟨rfl, rfl⟩)
  go_loopw [1, 9, 10, 40] (fun b _ _ i wr => ∃ (p : Nat) (A' : Option Addr) (n' c' : Nat) (M : List RowB), i = .int .i64 p ∧ p ≤ k ∧ b = .slice A' n' c' ∧ n' ≤ c' ∧ c' ≤ 9223372036854775807 ∧ Hid ((bs.drop (p * W)).length = n') ∧ Hid (Rd w' B A' ((bs.drop (p * W)).map bv)) ∧ Hid (SplI w' bs W k p M wr)) (fun _ _ _ i _ => k - (intOf i).toNat)
  case atStart =>
    refine ⟨0, Ab, nb, cb, [], rfl, Nat.zero_le _, rfl, hcb, hcm, ?_, ?_, ⟨rfl, ?_, RowsNew.nil, (Below.refl _ _).alloc (Nat.le_refl _) _⟩⟩
    · show _ = _; rw [Nat.zero_mul, List.drop_zero]; exact HNB.out
    · show Rd _ _ _ _; rw [Nat.zero_mul, List.drop_zero]; exact HR.out
    · have := own_made w' w'.heap.size 22 (.slice none 0 0) k k (Nat.le_refl _) (Nat.le_refl _) (by unfold maxLen; omega)
      simpa using this
  case round =>
    clear h0 h02 hmk hmul HN HR HNB
    obtain ⟨p, A', n', c', M, rfl, hp, rfl, hnc, hcm', HL, HRD, HI⟩ := hrel
    by_cases hlt : p < k
    · obtain ⟨q, hq⟩ : ∃ q, (W < n' ∧ q = W) ∨ (¬ W < n' ∧ q = n') := by
        by_cases hx : W < n'
        · exact ⟨W, .inl ⟨hx, rfl⟩⟩
        · exact ⟨n', .inr ⟨hx, rfl⟩⟩
      have HQ : Hid (q = min (bs.drop (p * W)).length W) := by
        show _ = _
        rw [HL.out]
        omega
      have hqW : q ≤ W := by omega
      have hqn : q ≤ n' := by omega
      have hsl1 := fun V : World => run_cut_to (P := Try.prog) 22 5 Try.underlying22 sizeByte A' n' c' q .i64 (by omega) V
      have hsl2 := fun (V : World) (X : Nat) => run_cut_to (P := Try.prog) 22 5 Try.underlying22 sizeByte (some ⟨X, 0, none⟩) q W W .i64 (Nat.le_refl _) V
      have hsl3 := fun V : World => run_cut_from (P := Try.prog) 22 5 Try.underlying22 sizeByte A' n' c' q .i64 (by omega) V
      have hz := HI.out.below.size
      have HPD := fun ty => run_pad (wr.drew.alloc (.cells (madeCells #[.int .u8 0] W) 5)) wr.heap.size W (Blk.new wr.drew _ _) B A' ((bs.drop (p * W)).take q) q c' (by
        have hb2 : Below w'.heap.size w' (wr.drew.alloc (.cells (madeCells #[.int .u8 0] W) 5)) := (below_drewN HI.out.below 1).alloc hz _
        have h5 := (HRD.out.below (hb2.mono hB)).take q
        rw [← List.map_take] at h5
        exact h5) (by rw [List.length_take, HL.out]; omega) hqW (by unfold maxLen; omega) wr.heap.size (Nat.le_refl _) ty
      have HTK : Hid (Cod.pad ((bs.drop (p * W)).take q) W = Cod.cutRow bs W p) := by
        show _ = _
        unfold Cod.cutRow
        rw [HQ.out, List.take_eq_take_iff.2]
        omega
      have HDR : Hid ((bs.drop (p * W)).drop q = bs.drop ((p + 1) * W)) := (show _ = _ by rw [HQ.out]; exact Cod.drop_next bs W p)
      have HPD2 := Lib.hid HPD
      have HC2 := Lib.hid (fun w2 hb => HI.out.cells (w2 := w2) hlt hb)
      have HPU := Lib.hid (fun w2 c3 hb ho => HI.out.push (w2 := w2) hlt hb (r := ⟨some ⟨wr.heap.size, 0, none⟩, W, c3, Cod.cutRow bs W p⟩) rfl ho)
      have HRN : Hid (Rd w' B (cut A' c' q) ((bs.drop ((p + 1) * W)).map bv)) := by
        show Rd _ _ _ _
        rw [← HDR.out, List.map_drop]
        exact HRD.out.cut (by rw [List.length_map, HL.out]; exact hqn) (by rw [List.length_map, HL.out]; exact hnc)
      have HLN : Hid ((bs.drop ((p + 1) * W)).length = n' - q) := by
        show _ = _
        rw [← HDR.out, List.length_drop, HL.out]
      clear HPD HI HL HRD HQ HDR
      rcases hq with ⟨hx, rfl⟩ | ⟨hx, rfl⟩
      all_goals
        go_wp2
        refine wp_region_held_drew (S := (fun _ => True)) (by kernel_rfl) trivial (fun _ => ?_)
        refine wpAnyH_take (i := 0) (v := ?_) rfl (by kernel_rfl) (by kernel_rfl) (by kernel_rfl) (fun _ _ _ h => h) (Or.inl ⟨by rfl, ?_⟩) trivial ?_
        rotate_left
        · intro wS hSw
          go_simp
          try with_reducible rfl
        try simp only [List.getElem_toArray, List.getElem_cons_zero, List.getElem_cons_succ, Act.put, List.setIfInBounds_toArray, List.set_cons_zero, List.set_cons_succ]
        refine wpAnyH_take (i := 1) (v := ?_) rfl (by kernel_rfl) (by kernel_rfl) (by kernel_rfl) (fun _ _ _ h => h) (Or.inl ⟨by rfl, ?_⟩) trivial ?_
        rotate_left
        · intro wS hSw
          go_simp
          try with_reducible rfl
        try simp only [List.getElem_toArray, List.getElem_cons_zero, List.getElem_cons_succ, Act.put, List.setIfInBounds_toArray, List.set_cons_zero, List.set_cons_succ]
        refine wpAnyH_take (i := 2) (v := ?_) rfl (by kernel_rfl) (by kernel_rfl) (by kernel_rfl) (fun _ _ _ h => h) (Or.inl ⟨by rfl, ?_⟩) trivial ?_
        rotate_left
        · intro wS hSw
          go_simp
          try with_reducible rfl
        try simp only [List.getElem_toArray, List.getElem_cons_zero, List.getElem_cons_succ, Act.put, List.setIfInBounds_toArray, List.set_cons_zero, List.set_cons_succ]
        refine wpAnyH_take (i := 4) (v := ?_) rfl (by kernel_rfl) (by kernel_rfl) (by kernel_rfl) (fun _ _ _ h => h) (Or.inl ⟨by rfl, ?_⟩) trivial ?_
        rotate_left
        · intro wS hSw
          go_simp
          try with_reducible rfl
        try simp only [List.getElem_toArray, List.getElem_cons_zero, List.getElem_cons_succ, Act.put, List.setIfInBounds_toArray, List.set_cons_zero, List.set_cons_succ]
        refine wpAnyH_take (i := 5) (v := ?_) rfl (by kernel_rfl) (by kernel_rfl) (by kernel_rfl) (fun _ _ _ h => h) (Or.inl ⟨by rfl, ?_⟩) trivial ?_
        rotate_left
        · intro wS hSw
          go_simp
          try with_reducible rfl
        try simp only [List.getElem_toArray, List.getElem_cons_zero, List.getElem_cons_succ, Act.put, List.setIfInBounds_toArray, List.set_cons_zero, List.set_cons_succ]
        refine wpAnyH_take (i := 6) (v := ?_) rfl (by kernel_rfl) (by kernel_rfl) (by kernel_rfl) (fun _ _ _ h => h) (Or.inl ⟨by rfl, ?_⟩) trivial ?_
        rotate_left
        · intro wS hSw
          go_simp
          try with_reducible rfl
        try simp only [List.getElem_toArray, List.getElem_cons_zero, List.getElem_cons_succ, Act.put, List.setIfInBounds_toArray, List.set_cons_zero, List.set_cons_succ]
        refine wpAnyH_take (i := 8) (v := ?_) rfl (by kernel_rfl) (by kernel_rfl) (by kernel_rfl) (fun _ _ _ h => h) (Or.inl ⟨by rfl, ?_⟩) trivial ?_
        rotate_left
        · intro wS hSw
          go_simp
          try with_reducible rfl
        try simp only [List.getElem_toArray, List.getElem_cons_zero, List.getElem_cons_succ, Act.put, List.setIfInBounds_toArray, List.set_cons_zero, List.set_cons_succ]
        refine wpAnyH_ready (rs := [3]) (by kernel_rfl) (by simp) ?_
        refine AllReadyH.cons rfl (fun K hK => ?_) AllReadyH.nil
        go_simp
        refine hK.out _ _ trivial (fun _ => ?_)
        clear hK K
        try simp only [List.getElem_toArray, List.getElem_cons_zero, List.getElem_cons_succ, Act.put, List.setIfInBounds_toArray, List.set_cons_zero, List.set_cons_succ]
        refine wpAnyH_ready (rs := [7]) (by kernel_rfl) (by simp) ?_
        refine AllReadyH.cons rfl (fun K hK => ?_) AllReadyH.nil
        obtain ⟨w2, hrun, ho2, hb2⟩ := HPD2.out (22)
        rw [HTK.out] at ho2
        have hb3 : Below wr.heap.size wr w2 := ((below_drewN (Below.refl wr.heap.size wr) 1).alloc (Nat.le_refl _) _).trans hb2
        obtain ⟨⟨v0, hcl⟩, hfz⟩ := HC2.out w2 hb3
        have HPX := Lib.hid (HPU.out w2 _ hb3 ho2)
        clear ho2 hb2 hb3
        refine wp_append (.tmp 50) (.tmp 53) 22 rfl _ _ _ rfl rfl hrun ?_
        refine hK.out _ _ trivial (fun _ => ?_)
        clear hK K
        try simp only [List.getElem_toArray, List.getElem_cons_zero, List.getElem_cons_succ, Act.put, List.setIfInBounds_toArray, List.set_cons_zero, List.set_cons_succ]
        refine wpAnyH_take (i := 9) (v := ?_) rfl (by kernel_rfl) (by kernel_rfl) (by kernel_rfl) (fun _ _ _ h => h) (Or.inl ⟨by rfl, ?_⟩) trivial ?_
        rotate_left
        · intro wS hSw
          go_simp
          try with_reducible rfl
        try simp only [List.getElem_toArray, List.getElem_cons_zero, List.getElem_cons_succ, Act.put, List.setIfInBounds_toArray, List.set_cons_zero, List.set_cons_succ]
        refine wpAnyH_take (i := 10) (v := ?_) rfl (by kernel_rfl) (by kernel_rfl) (by kernel_rfl) (fun _ _ _ h => h) (Or.inl ⟨by rfl, ?_⟩) trivial ?_
        rotate_left
        · intro wS hSw
          go_simp
          try with_reducible rfl
        try simp only [List.getElem_toArray, List.getElem_cons_zero, List.getElem_cons_succ, Act.put, List.setIfInBounds_toArray, List.set_cons_zero, List.set_cons_succ]
        refine wpAnyH_ready (rs := [11]) (by kernel_rfl) (by simp) ?_
        refine AllReadyH.cons rfl (fun K hK => ?_) AllReadyH.nil
        go_simp
        refine hK.out _ _ trivial (fun _ => ?_)
        clear hK K
        try simp only [List.getElem_toArray, List.getElem_cons_zero, List.getElem_cons_succ, Act.put, List.setIfInBounds_toArray, List.set_cons_zero, List.set_cons_succ]
        refine wpAnyH_done (by kernel_rfl) ?_ _
        go_wp2
        go_roundw
        case rel => exact ⟨p + 1, _, _, _, _, by go_num, hlt, rfl, by omega, by omega, (by first | exact HLN | (show _ = _; have := HLN.out; omega)), HRN, HPX⟩
        case measure => simp [intOf]; omega
    · obtain rfl : p = k := by omega
      have hI := HI.out
      have hl := hI.len
      have ho := hI.own
      rw [Nat.sub_self, List.replicate_zero, List.append_nil] at ho
      go_wp2
      first | go_ret2 | go_ret
      exact ⟨_, p, p, M, rfl, hI.bs, hl, ho, hI.rows, hI.below⟩
end Cib
