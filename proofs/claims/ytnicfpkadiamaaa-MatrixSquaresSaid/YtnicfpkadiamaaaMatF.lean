/- What filled does: a matrix whose numbers a function tells. -/
import Derived.Test.YtnicfpkadiamaaaMatT
import Derived.Test.YtnicfpkadiamaaaTy
import Derived.Deep.RegionWith
set_option linter.unusedVariables false
set_option linter.unusedSimpArgs false
set_option maxRecDepth 40000
namespace Cib
open Go Go.RowKit Go.Proofs
/-- The first numbers of a matrix of so many columns, row by row. -/
def tabN (cols : Nat) (val : Nat → Nat → UInt8) (p : Nat) : List UInt8 := (List.range p).map fun q => val (q / cols) (q % cols)
theorem tabN_length (cols : Nat) (val : Nat → Nat → UInt8) (p : Nat) : (tabN cols val p).length = p := by simp [tabN]
theorem tabN_next (cols : Nat) (val : Nat → Nat → UInt8) {i j : Nat} (h : j < cols) : tabN cols val (i * cols + (j + 1)) = tabN cols val (i * cols + j) ++ [val i j] := by
  unfold tabN
  rw [← Nat.add_assoc, List.range_succ, List.map_append]
  have h1 : (i * cols + j) / cols = i := by
    rw [Nat.mul_comm, Nat.mul_add_div (by omega)]
    simp [Nat.div_eq_of_lt h]
  have h2 : (i * cols + j) % cols = j := by
    rw [Nat.mul_comm, Nat.mul_add_mod]
    exact Nat.mod_eq_of_lt h
  simp [h1, h2]
theorem tabN_get (cols : Nat) (val : Nat → Nat → UInt8) (p : Nat) {q : Nat} (h : q < (tabN cols val p).length) : (tabN cols val p)[q] = val (q / cols) (q % cols) := by simp [tabN]
theorem matInfo3 : (Try.prog.info? 24).map (·.size) = some 3 := by kernel_rfl
theorem mv_one (r c : Int) (A : Option Addr) (n k : Nat) : (mv r c A n k).all (·.oneCell') = true := by simp [mv, Value.oneCell']
theorem own_setRow {w : World} {base : Nat} {e : TypeId} {v : Value} {n : Nat} {xs : List Value} (h : w.ownsRow base e 1 v n xs) {g : Nat} (hg : v.ownBlock ≠ some g) (cs : Array Value) : (w.setRow g cs).ownsRow base e 1 v n xs := by
  refine ⟨h.1, ?_⟩
  rcases h.2 with h0 | ⟨k, cap, cur, rfl, h1, h2, h3⟩
  · exact .inl h0
  · exact .inr ⟨k, cap, cur, rfl, h1, (setRow_other w g k cs (fun e => hg (by subst e; simp [Value.ownBlock]))).trans h2, h3⟩
/-- Two results, the first a struct in memory. -/
theorem results_mat2 {P : Program} {fn : Func} {p t : Tmp} {ty : TypeId} (h : fn.results = #[.cell p ty, .tmp t]) (tmps : Array Value) (w : World) (g : Nat) (te : TypeId) (cs : Array Value) (fr : Nat × Nat) (d : TypeDesc)
    (hp : tmps.getD p undef = .pointer (some ⟨g, 0, none⟩)) (hg : w.heap[g]? = some (.cells cs te fr))
    (hu : P.underlying ty = some d) (hd : (match d with | .struct _ | .array _ _ => true | _ => false) = true) (hi : (P.info? ty).map (·.size) = some cs.size) :
    (results fn tmps).run P w = .ok (.tuple #[.agg cs, tmps.getD t undef]) w := by
  have hp' : tmps[p]?.getD undef = .pointer (some ⟨g, 0, none⟩) := by simpa using hp
  simp [results, h, hp', asAddr, run_loadVar_row w g te ty cs fr d hg hu hd hi]
/-- filled under way. -/
structure FlI (w : World) (rows cols : Nat) (val : Nat → Nat → UInt8) (q : Nat) (A : Option Addr) (c : Nat) (wr : World) : Prop where
  blk : Blk wr (w.heap.size + 1 + 1) 24 (mv rows cols A q c)
  own : wr.ownsRow w.heap.size 5 1 (.slice A q c) q ((tabN cols val q).map bv)
  below : Below w.heap.size w wr
  res : Blk wr w.heap.size 24 (mv 0 0 none 0 0)
theorem FlI.kept {w wr w2 w3 : World} {rows cols : Nat} {val : Nat → Nat → UInt8} {n : Nat} {A : Option Addr} {c : Nat} (h : FlI w rows cols val n A c wr)
    (hb2 : Below wr.heap.size wr w2) {b : Value} (hg : (w2.alloc (.cells #[b] 5)).grownBy w3 (Value.slice A n c).ownBlock) {k t cs} (hk : Blk wr k t cs) (ht : t ≠ 5) : Blk w3 k t cs := by
  have ho2 := own_via h.own hb2
  have h2 := hk.below hb2 hk.lt
  have hne : (Value.slice A n c).ownBlock ≠ some k := by
    intro he
    rcases ho2.2 with ⟨h0, _⟩ | ⟨g, cap, cur, hv, _, h2', _⟩
    · injection h0 with h0
      subst h0
      simp [Value.ownBlock] at he
    · injection hv with h0
      subst h0
      simp [Value.ownBlock] at he
      subst he
      exact ht (Ty.one (w := w2) ⟨_, _, h2⟩ ⟨_, _, h2'⟩)
  exact (hg.block k (by simp; have := h2.lt; omega) (fun e => hne e.symm)).trans (h2.alloc _)
theorem FlI.push {w wr w2 w3 : World} {rows cols : Nat} {val : Nat → Nat → UInt8} {i j : Nat} {A A3 : Option Addr} {c c3 : Nat} (h : FlI w rows cols val (i * cols + j) A c wr) (hj : j < cols)
    (hb2 : Below wr.heap.size wr w2) {b : Value} (hb : b = bv (val i j))
    (ho : w3.ownsRow w.heap.size 5 1 (.slice A3 (i * cols + j + 1) c3) (i * cols + j + 1) ((tabN cols val (i * cols + j)).map bv ++ [b])) (hg : (w2.alloc (.cells #[b] 5)).grownBy w3 (Value.slice A (i * cols + j) c).ownBlock) (hbl : Below w.heap.size (w2.alloc (.cells #[b] 5)) w3) :
    FlI w rows cols val (i * cols + (j + 1)) A3 c3 (w3.setCell ⟨w.heap.size + 1 + 1, 2, none⟩ (.slice A3 (i * cols + j + 1) c3)) := by
  have hB := h.kept hb2 hg h.blk (by decide)
  have hR := h.kept hb2 hg h.res (by decide)
  subst hb
  have hbw : Below w.heap.size w w3 := ((h.below.trans (hb2.mono h.below.size)).alloc (Nat.le_trans h.below.size hb2.size) _).trans hbl
  refine ⟨?_, ?_, hbw.setCell (by show _ ≤ w.heap.size + 1 + 1; omega) _, hR.far (by show _ ≠ w.heap.size + 1 + 1; omega) _⟩
  · exact hB.set 2 _
  · rw [tabN_next cols val hj, List.map_append]
    have hnb : (Value.slice A3 (i * cols + j + 1) c3).ownBlock ≠ some (w.heap.size + 1 + 1) := by
      intro he
      rcases ho.2 with ⟨h0, _⟩ | ⟨g, cap, cur, hv, _, h2, _⟩
      · omega
      · injection hv with h0
        subst h0
        simp [Value.ownBlock] at he
        subst he
        exact absurd (Ty.one (w := w3) ⟨_, _, hB⟩ ⟨_, _, h2⟩) (by decide)
    exact ownsRow_setCell_other ho hnb _
theorem wp_appB {w : World} {o : Oper} {a : Act} {K : Act → World → Prop} {Q : Exit → Act → World → Prop} (s x : Operand)
    (ho : o.op = .call { callee := .builtin .append, args := #[s, x], argTypes := #[22, 22] })
    (base : Nat) (A0 : Option Addr) (n0 c0 : Nat) (xs : List Value) (hs : a.eval s = .slice A0 n0 c0) (hown : w.ownsRow base 5 1 (.slice A0 n0 c0) n0 xs)
    (B : Nat) (A : Option Addr) (m c : Nat) (news : List Value) (hx : a.eval x = .slice A m c) (hm : news.length = m) (hr : Rd w B A news) (h1 : ∀ u ∈ news, u.oneCell' = true)
    (hbytes : n0 + m ≤ 140737488355328) (hbase : base ≤ w.heap.size)
    (h : ∀ A' c' w', w'.ownsRow base 5 1 (.slice A' (n0 + m) c') (n0 + m) (xs ++ news) → w.grownBy w' (Value.slice A0 n0 c0).ownBlock → Below base w w' → K (a.put o.dst (.slice A' (n0 + m) c')) w') :
    o.wp Try.prog a w K Q := by
  obtain ⟨i0, hi, hz0, hz1, hz2⟩ := info_parts infoByte
  obtain ⟨A', c', w', hrun, h2, h3, h4⟩ := run_app (P := Try.prog) w base 22 o.type 5 i0 _ 1 Try.underlying22 hi hz0 hz1 hz2 rfl A0 n0 c0 xs hown B A m c news hm hr h1 (by unfold maxLen; omega) (by omega) hbase
  unfold Oper.wp execOp
  simp only [ho, resolve, invoke, builtin, Sem.run_bind, Sem.run_pure, Result.andThen_ok, List.map_toArray, List.map_cons, List.map_nil, hs, hx, hrun]
  exact h A' c' w' h2 h3 h4
set_option maxHeartbeats 1600000 in
theorem matFilled (fn : Nat) (caps : Array Value) (rows cols : Nat) (hr : rows ≤ 255) (hc : cols ≤ 255) (val : Nat → Nat → UInt8) (w : World) (hent : ∀ (a : Array Value) (W : World), (callFunc fn a).run Try.prog W = .ok (.enter fn a) W)
    (H : ∀ i j, i < rows → j < cols → ∀ W, Below w.heap.size w W → Calls Try.prog fn (#[.int .i64 (i : Int), .int .i64 (j : Int)] ++ caps) W fun e W' => e = .returned (.int .u8 ((val i j).toNat : Int)) ∧ Below W.heap.size W W') :
    Calls Try.prog 32 #[.int .i64 (rows : Int), .int .i64 (cols : Int), .func (.func fn) #[] caps] w fun e w' =>
      ∃ A c, e = .returned (.agg (mv rows cols A (rows * cols) c)) ∧ w'.ownsRow w.heap.size 5 1 (.slice A (rows * cols) c) (rows * cols) ((tabN cols val (rows * cols)).map bv) ∧ Below w.heap.size w w' := by
  have HH := Lib.hid H
  clear H
  obtain ⟨T, hT⟩ : ∃ T, rows * cols = T := ⟨_, rfl⟩
  have hT2 : T ≤ 65025 := by rw [← hT]; exact Nat.mul_le_mul hr hc
  have hmul : (rows : Int) * (cols : Int) = (T : Int) := by rw [← hT]; simp
  have hmk := @makeB
  obtain ⟨i0, hi, hz0, hz1, hz2⟩ := info_parts infoByte
  have hmk2 : ∀ W : World, (Instr.makeSlice 22 (.int .i64 0) (.int .i64 (T : Int))).run Try.prog W = .ok (.slice (some ⟨W.heap.size, 0, none⟩) 0 T) (W.alloc (.cells (madeCells #[.int .u8 0] T) 5)) := fun W => by
    have := run_make (P := Try.prog) W 22 5 i0 (.int .u8 0) Try.underlying22 hi hz0 .i64 .i64 0 (T : Int) (by omega) (by omega) (by rw [hz2]; omega) (by omega)
    rw [hz1, Nat.mul_one, Int.toNat_natCast] at this
    exact this
  have HT := Lib.hid hT
  clear hT hmk
  go_enter Try.func32, Try.ntmps32
  go_wp2
  go_loopw [8, 9, 18] (fun _ _ i wr => ∃ (p : Nat) (A : Option Addr) (c : Nat), i = .int .i64 p ∧ p ≤ rows ∧ Hid (FlI w rows cols val (p * cols) A c wr)) (fun _ _ i _ => rows - (intOf i).toNat)
  case atStart =>
    refine ⟨0, some ⟨w.heap.size + 1, 0, none⟩, T, rfl, Nat.zero_le _, ?_⟩
    rw [Nat.zero_mul]
    refine ⟨?_, ?_, (((Below.refl _ _).alloc (Nat.le_refl _) _).alloc (by simp) _).alloc (by simp; omega) _, ?_⟩
    · have := Blk.new ((w.alloc (.cells #[.int .i64 0, .int .i64 0, .slice none 0 0] 24)).alloc (.cells (madeCells #[.int .u8 0] T) 5)) 24 (mv rows cols (some ⟨w.heap.size + 1, 0, none⟩) 0 T)
      simpa [mv] using this
    · refine World.ownsRow.alloc ?_ _
      have := own_made (w.alloc (.cells #[.int .i64 0, .int .i64 0, .slice none 0 0] 24)) w.heap.size 5 (.int .u8 0) 0 T (by simp) (by omega) (by unfold maxLen; omega)
      simpa [tabN] using this
    · exact ((Blk.new w 24 (mv 0 0 none 0 0)).alloc _).alloc _
  case round =>
    obtain ⟨p, A, c, rfl, hp, hI⟩ := hrel
    by_cases hlt : p < rows
    · go_wp2
      go_loopw [9, 22] (fun _ j wr => ∃ (q : Nat) (A : Option Addr) (c : Nat), j = .int .i64 q ∧ q ≤ cols ∧ Hid (FlI w rows cols val (p * cols + q) A c wr)) (fun _ j _ => cols - (intOf j).toNat)
      case atStart => exact ⟨0, A, c, rfl, Nat.zero_le _, hI⟩
      case round =>
        clear hI
        obtain ⟨q, A, c, rfl, hq, hI⟩ := hrel
        by_cases hlq : q < cols
        · have hcm := hI.out.blk.cell 2
          have hg2 := hI.out.blk.lt
          have hfm := hI.out.blk.frozen 2
          have hcm2 : (mv rows cols A (p * cols + q) c)[2]? = some (.slice A (p * cols + q) c) := rfl
          rw [hcm2] at hcm
          have HC := Lib.hid (HH.out p q hlt hlq wr.drew (below_drewN hI.out.below 1))
          have hlim : p * cols + q < T := by
            rw [← HT.out]
            calc p * cols + q < p * cols + cols := by omega
              _ = (p + 1) * cols := (Nat.succ_mul p cols).symm
              _ ≤ rows * cols := Nat.mul_le_mul_right _ hlt
          have HP := Lib.hid (fun w2 w3 A3 c3 hb2 => FlI.push (w := w) (wr := wr.drew) (w2 := w2) (w3 := w3) (A3 := A3) (c3 := c3) ⟨hI.out.blk, hI.out.own, below_drewN hI.out.below 1, hI.out.res⟩ hlq hb2 (b := bv (val p q)) rfl)
          have HK := Lib.hid (fun w2 w3 hb2 hg => FlI.kept (w := w) (wr := wr.drew) (w2 := w2) (w3 := w3) ⟨hI.out.blk, hI.out.own, below_drewN hI.out.below 1, hI.out.res⟩ hb2 (b := bv (val p q)) hg hI.out.blk (by decide))
          have HO : Hid (wr.drew.ownsRow w.heap.size 5 1 (.slice A (p * cols + q) c) (p * cols + q) ((tabN cols val (p * cols + q)).map bv)) := hI.out.own
          have hsz := hI.out.below.size
          clear hI hcm2
          go_wp2
          refine wp_region_held_drew (S := (fun _ => True)) (by kernel_rfl) trivial (fun _ => ?_)
          refine wpAnyH_take (i := 0) (v := ?_) rfl (by kernel_rfl) (by kernel_rfl) (by kernel_rfl) (fun _ _ _ h => h) (Or.inl ⟨by rfl, ?_⟩) trivial ?_
          rotate_left
          · intro wS hSw
            go_simp
            try with_reducible rfl
          try simp only [List.getElem_toArray, List.getElem_cons_zero, List.getElem_cons_succ, Act.put, List.setIfInBounds_toArray, List.set_cons_zero, List.set_cons_succ]
          refine wpAnyH_take (i := 2) (v := ?_) rfl (by kernel_rfl) (by kernel_rfl) (by kernel_rfl) (fun _ _ _ h => h) (Or.inl ⟨by rfl, ?_⟩) trivial ?_
          rotate_left
          · intro wS hSw
            go_simp
            try with_reducible rfl
          try simp only [List.getElem_toArray, List.getElem_cons_zero, List.getElem_cons_succ, Act.put, List.setIfInBounds_toArray, List.set_cons_zero, List.set_cons_succ]
          refine wpAnyH_take (i := 3) (v := ?_) rfl (by kernel_rfl) (by kernel_rfl) (by kernel_rfl) (fun _ _ _ h => h) (Or.inl ⟨by rfl, ?_⟩) trivial ?_
          rotate_left
          · intro wS hSw
            go_simp
            try with_reducible rfl
          try simp only [List.getElem_toArray, List.getElem_cons_zero, List.getElem_cons_succ, Act.put, List.setIfInBounds_toArray, List.set_cons_zero, List.set_cons_succ]
          refine wpAnyH_take (i := 4) (v := ?_) rfl (by kernel_rfl) (by kernel_rfl) (by kernel_rfl) (fun _ _ _ h => h) (Or.inl ⟨by rfl, ?_⟩) trivial ?_
          rotate_left
          · intro wS hSw
            go_simp
            try with_reducible rfl
          try simp only [List.getElem_toArray, List.getElem_cons_zero, List.getElem_cons_succ, Act.put, List.setIfInBounds_toArray, List.set_cons_zero, List.set_cons_succ]
          refine wpAnyH_ready (rs := [1, 5]) (by kernel_rfl) (by simp) ?_
          refine AllReadyH.cons rfl (fun K hK => ?_) (AllReadyH.cons rfl (fun K hK => ?_) AllReadyH.nil)
          · go_simp
            refine hK.out _ _ trivial (fun _ => ?_)
            clear hK K
            try simp only [List.getElem_toArray, List.getElem_cons_zero, List.getElem_cons_succ, Act.put, List.setIfInBounds_toArray, List.set_cons_zero, List.set_cons_succ]
            refine wpAnyH_ready (rs := [5]) (by kernel_rfl) (by simp) ?_
            refine AllReadyH.cons rfl (fun K hK => ?_) AllReadyH.nil
            go_simp
            refine HC.out.mono ?_
            rintro e w2 ⟨rfl, hb2⟩
            have hcm3 := (hb2.cell (p := ⟨w.heap.size + 1 + 1, 2, none⟩) (by exact hg2)).trans hcm
            have hs2 : w.heap.size ≤ w2.heap.size := Nat.le_trans hsz hb2.size
            have HB2 := Lib.hid hb2
            have hg3 := Nat.lt_of_lt_of_le hg2 hb2.size
            have hcm5 := (World.cell?_alloc_lt w2 (.cells #[.int .u8 ((val p q).toNat : Int)] 5) ⟨w.heap.size + 1 + 1, 2, none⟩ hg3).trans hcm3
            clear hb2
            refine hK.out _ _ trivial (fun _ => ?_)
            clear hK K
            try simp only [List.getElem_toArray, List.getElem_cons_zero, List.getElem_cons_succ, Act.put, List.setIfInBounds_toArray, List.set_cons_zero, List.set_cons_succ]
            refine wpAnyH_ready (rs := [6]) (by kernel_rfl) (by simp) ?_
            refine AllReadyH.cons rfl (fun K hK => ?_) AllReadyH.nil
            go_simp
            refine hK.out _ _ trivial (fun _ => ?_)
            clear hK K
            try simp only [List.getElem_toArray, List.getElem_cons_zero, List.getElem_cons_succ, Act.put, List.setIfInBounds_toArray, List.set_cons_zero, List.set_cons_succ]
            refine wpAnyH_ready (rs := [7]) (by kernel_rfl) (by simp) ?_
            refine AllReadyH.cons rfl (fun K hK => ?_) AllReadyH.nil
            refine wp_appB (.tmp 26) (.tmp 31) rfl w.heap.size A (p * cols + q) c ((tabN cols val (p * cols + q)).map bv) rfl ((own_via HO.out HB2.out).alloc _) _ (some ⟨w2.heap.size, 0, none⟩) 1 1 [bv (val p q)] rfl rfl (Rd.new w2 _ _ _ rfl) one_byte (by omega) (by simp; omega) ?_
            intro A3 c3 w3 ho3 hg3 hb3
            have hk3 := HK.out _ _ HB2.out hg3
            have hcm4 := hk3.cell 2
            rw [show (mv rows cols A (p * cols + q) c)[2]? = some (.slice A (p * cols + q) c) from rfl] at hcm4
            have hfm4 := hk3.frozen 2
            have HP3 := Lib.hid (HP.out _ _ _ _ HB2.out ho3 hg3 hb3)
            clear hk3 ho3 hg3 hb3
            refine hK.out _ _ trivial (fun _ => ?_)
            clear hK K
            try simp only [List.getElem_toArray, List.getElem_cons_zero, List.getElem_cons_succ, Act.put, List.setIfInBounds_toArray, List.set_cons_zero, List.set_cons_succ]
            refine wpAnyH_take (i := 8) (v := ?_) rfl (by kernel_rfl) (by kernel_rfl) (by kernel_rfl) (fun _ _ _ h => h) (Or.inl ⟨by rfl, ?_⟩) trivial ?_
            rotate_left
            · intro wS hSw
              go_simp
              try with_reducible rfl
            try simp only [List.getElem_toArray, List.getElem_cons_zero, List.getElem_cons_succ, Act.put, List.setIfInBounds_toArray, List.set_cons_zero, List.set_cons_succ]
            refine wpAnyH_ready (rs := [9]) (by kernel_rfl) (by simp) ?_
            refine AllReadyH.cons rfl (fun K hK => ?_) AllReadyH.nil
            go_simp
            refine hK.out _ _ trivial (fun _ => ?_)
            clear hK K
            try simp only [List.getElem_toArray, List.getElem_cons_zero, List.getElem_cons_succ, Act.put, List.setIfInBounds_toArray, List.set_cons_zero, List.set_cons_succ]
            refine wpAnyH_done (by kernel_rfl) ?_ _
            go_wp2
            go_roundw
            case rel => exact ⟨q + 1, A3, c3, by go_num, hlq, HP3⟩
            case measure => simp [intOf]; omega
          · go_simp
            refine HC.out.mono ?_
            rintro e w2 ⟨rfl, hb2⟩
            have hcm3 := (hb2.cell (p := ⟨w.heap.size + 1 + 1, 2, none⟩) (by exact hg2)).trans hcm
            have hs2 : w.heap.size ≤ w2.heap.size := Nat.le_trans hsz hb2.size
            have HB2 := Lib.hid hb2
            have hg3 := Nat.lt_of_lt_of_le hg2 hb2.size
            have hcm5 := (World.cell?_alloc_lt w2 (.cells #[.int .u8 ((val p q).toNat : Int)] 5) ⟨w.heap.size + 1 + 1, 2, none⟩ hg3).trans hcm3
            clear hb2
            refine hK.out _ _ trivial (fun _ => ?_)
            clear hK K
            try simp only [List.getElem_toArray, List.getElem_cons_zero, List.getElem_cons_succ, Act.put, List.setIfInBounds_toArray, List.set_cons_zero, List.set_cons_succ]
            refine wpAnyH_ready (rs := [1, 6]) (by kernel_rfl) (by simp) ?_
            refine AllReadyH.cons rfl (fun K hK => ?_) (AllReadyH.cons rfl (fun K hK => ?_) AllReadyH.nil)
            · go_simp
              refine hK.out _ _ trivial (fun _ => ?_)
              clear hK K
              try simp only [List.getElem_toArray, List.getElem_cons_zero, List.getElem_cons_succ, Act.put, List.setIfInBounds_toArray, List.set_cons_zero, List.set_cons_succ]
              refine wpAnyH_ready (rs := [6]) (by kernel_rfl) (by simp) ?_
              refine AllReadyH.cons rfl (fun K hK => ?_) AllReadyH.nil
              go_simp
              refine hK.out _ _ trivial (fun _ => ?_)
              clear hK K
              try simp only [List.getElem_toArray, List.getElem_cons_zero, List.getElem_cons_succ, Act.put, List.setIfInBounds_toArray, List.set_cons_zero, List.set_cons_succ]
              refine wpAnyH_ready (rs := [7]) (by kernel_rfl) (by simp) ?_
              refine AllReadyH.cons rfl (fun K hK => ?_) AllReadyH.nil
              refine wp_appB (.tmp 26) (.tmp 31) rfl w.heap.size A (p * cols + q) c ((tabN cols val (p * cols + q)).map bv) rfl ((own_via HO.out HB2.out).alloc _) _ (some ⟨w2.heap.size, 0, none⟩) 1 1 [bv (val p q)] rfl rfl (Rd.new w2 _ _ _ rfl) one_byte (by omega) (by simp; omega) ?_
              intro A3 c3 w3 ho3 hg3 hb3
              have hk3 := HK.out _ _ HB2.out hg3
              have hcm4 := hk3.cell 2
              rw [show (mv rows cols A (p * cols + q) c)[2]? = some (.slice A (p * cols + q) c) from rfl] at hcm4
              have hfm4 := hk3.frozen 2
              have HP3 := Lib.hid (HP.out _ _ _ _ HB2.out ho3 hg3 hb3)
              clear hk3 ho3 hg3 hb3
              refine hK.out _ _ trivial (fun _ => ?_)
              clear hK K
              try simp only [List.getElem_toArray, List.getElem_cons_zero, List.getElem_cons_succ, Act.put, List.setIfInBounds_toArray, List.set_cons_zero, List.set_cons_succ]
              refine wpAnyH_take (i := 8) (v := ?_) rfl (by kernel_rfl) (by kernel_rfl) (by kernel_rfl) (fun _ _ _ h => h) (Or.inl ⟨by rfl, ?_⟩) trivial ?_
              rotate_left
              · intro wS hSw
                go_simp
                try with_reducible rfl
              try simp only [List.getElem_toArray, List.getElem_cons_zero, List.getElem_cons_succ, Act.put, List.setIfInBounds_toArray, List.set_cons_zero, List.set_cons_succ]
              refine wpAnyH_ready (rs := [9]) (by kernel_rfl) (by simp) ?_
              refine AllReadyH.cons rfl (fun K hK => ?_) AllReadyH.nil
              go_simp
              refine hK.out _ _ trivial (fun _ => ?_)
              clear hK K
              try simp only [List.getElem_toArray, List.getElem_cons_zero, List.getElem_cons_succ, Act.put, List.setIfInBounds_toArray, List.set_cons_zero, List.set_cons_succ]
              refine wpAnyH_done (by kernel_rfl) ?_ _
              go_wp2
              go_roundw
              case rel => exact ⟨q + 1, A3, c3, by go_num, hlq, HP3⟩
              case measure => simp [intOf]; omega
            · go_simp
              refine hK.out _ _ trivial (fun _ => ?_)
              clear hK K
              try simp only [List.getElem_toArray, List.getElem_cons_zero, List.getElem_cons_succ, Act.put, List.setIfInBounds_toArray, List.set_cons_zero, List.set_cons_succ]
              refine wpAnyH_ready (rs := [1]) (by kernel_rfl) (by simp) ?_
              refine AllReadyH.cons rfl (fun K hK => ?_) AllReadyH.nil
              go_simp
              refine hK.out _ _ trivial (fun _ => ?_)
              clear hK K
              try simp only [List.getElem_toArray, List.getElem_cons_zero, List.getElem_cons_succ, Act.put, List.setIfInBounds_toArray, List.set_cons_zero, List.set_cons_succ]
              refine wpAnyH_ready (rs := [7]) (by kernel_rfl) (by simp) ?_
              refine AllReadyH.cons rfl (fun K hK => ?_) AllReadyH.nil
              refine wp_appB (.tmp 26) (.tmp 31) rfl w.heap.size A (p * cols + q) c ((tabN cols val (p * cols + q)).map bv) rfl ((own_via HO.out HB2.out).alloc _) _ (some ⟨w2.heap.size, 0, none⟩) 1 1 [bv (val p q)] rfl rfl (Rd.new w2 _ _ _ rfl) one_byte (by omega) (by simp; omega) ?_
              intro A3 c3 w3 ho3 hg3 hb3
              have hk3 := HK.out _ _ HB2.out hg3
              have hcm4 := hk3.cell 2
              rw [show (mv rows cols A (p * cols + q) c)[2]? = some (.slice A (p * cols + q) c) from rfl] at hcm4
              have hfm4 := hk3.frozen 2
              have HP3 := Lib.hid (HP.out _ _ _ _ HB2.out ho3 hg3 hb3)
              clear hk3 ho3 hg3 hb3
              refine hK.out _ _ trivial (fun _ => ?_)
              clear hK K
              try simp only [List.getElem_toArray, List.getElem_cons_zero, List.getElem_cons_succ, Act.put, List.setIfInBounds_toArray, List.set_cons_zero, List.set_cons_succ]
              refine wpAnyH_take (i := 8) (v := ?_) rfl (by kernel_rfl) (by kernel_rfl) (by kernel_rfl) (fun _ _ _ h => h) (Or.inl ⟨by rfl, ?_⟩) trivial ?_
              rotate_left
              · intro wS hSw
                go_simp
                try with_reducible rfl
              try simp only [List.getElem_toArray, List.getElem_cons_zero, List.getElem_cons_succ, Act.put, List.setIfInBounds_toArray, List.set_cons_zero, List.set_cons_succ]
              refine wpAnyH_ready (rs := [9]) (by kernel_rfl) (by simp) ?_
              refine AllReadyH.cons rfl (fun K hK => ?_) AllReadyH.nil
              go_simp
              refine hK.out _ _ trivial (fun _ => ?_)
              clear hK K
              try simp only [List.getElem_toArray, List.getElem_cons_zero, List.getElem_cons_succ, Act.put, List.setIfInBounds_toArray, List.set_cons_zero, List.set_cons_succ]
              refine wpAnyH_done (by kernel_rfl) ?_ _
              go_wp2
              go_roundw
              case rel => exact ⟨q + 1, A3, c3, by go_num, hlq, HP3⟩
              case measure => simp [intOf]; omega
        · obtain rfl : q = cols := by omega
          have hI' : Hid (FlI w rows q val ((p + 1) * q) A c wr) := (show FlI _ _ _ _ _ _ _ _ by rw [Nat.succ_mul]; exact hI.out)
          clear hI
          go_wp2
          go_roundw
          case rel => exact ⟨p + 1, A, c, by go_num, hlt, hI'⟩
          case measure => simp [intOf]; omega
    · obtain rfl : p = rows := by omega
      have hb := hI.out.blk
      have hr := hI.out.res
      have HO := Lib.hid hI.out.own
      have HBL := Lib.hid hI.out.below
      have HNE : Hid ((Value.slice A (p * cols) c).ownBlock ≠ some w.heap.size) := fun he => by
        rcases HO.out.2 with ⟨h0, _⟩ | ⟨g, cap, cur, hv, _, h2', _⟩
        · injection h0 with h0
          subst h0
          simp [Value.ownBlock] at he
        · injection hv with h0
          subst h0
          simp [Value.ownBlock] at he
          subst he
          exact absurd (Ty.one (w := wr) ⟨_, _, hr⟩ ⟨_, _, h2'⟩) (by decide)
      clear hI
      go_wp2_with (first | (refine wpList_load_row rfl 24 (.tmp 7) rfl (w.heap.size + 1 + 1) rfl 24 _ (0, 0) _ hb Try.underlying24 rfl matInfo3 ?_) | (refine wpList_store_row rfl 24 (.tmp 6) (.tmp 36) rfl w.heap.size (mv p cols A (p * cols) c) rfl rfl 24 (mv 0 0 none 0 0) hr matInfo3 rfl (mv_one _ _ _ _ _) ?_))
      refine bodyPost_ret (results_cell_row (g := w.heap.size) (t := 24) (cs := mv p cols A (p * cols) c) (fr := (0, 0)) rfl _ _ _ rfl (Blk.row hr _) Try.underlying24 rfl matInfo3) rfl ?_
      exact ⟨A, c, rfl, own_setRow HO.out HNE.out _, below_setRow HBL.out (Nat.le_refl _) _⟩
end Cib
