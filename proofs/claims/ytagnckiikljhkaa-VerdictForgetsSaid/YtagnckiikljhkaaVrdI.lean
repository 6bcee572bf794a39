/- Forget. -/
import Derived.Test.YtagnckiikljhkaaVrdH
set_option linter.unusedVariables false
set_option linter.unusedSimpArgs false
set_option maxRecDepth 20000
namespace Vrd
/-- what is remembered above a horizon -/
def above (f : Mem) (horizon : Nat) : Mem := fun k => (f k).filter fun s => decide (horizon < s)
theorem above_iff {f : Mem} {horizon : Nat} {k : ByteArray} {s : Nat} : above f horizon k = some s ↔ f k = some s ∧ horizon < s := by
  unfold above
  rw [Option.filter_eq_some_iff, decide_eq_true_eq]
end Vrd
namespace Cib
open Go Go.RowKit Go.Proofs Go.Maps Go.WideMaps
variable {w w' w1 : World} {b r N cnt base g last n c : Nat} {f : Vrd.Mem} {left : Lit → Bool} {rows : List (Nat × Value)} {A : Option Addr}
theorem struck_twice (left : Lit → Bool) (s : ByteArray) : struck (struck left s) s = struck left s := by
  funext z
  unfold struck
  cases left z <;> cases z.sameKey (kl s) <;> rfl
theorem swept_start (horizon : Nat) (h : ∀ s, left (kl s) = (f s).isSome) : Vrd.swept f horizon (fun s => left (kl s)) = f := by
  funext k
  unfold Vrd.swept
  simp only [h]
  cases f k <;> simp
theorem swept_end (horizon : Nat) (h : ∀ z, left z = false) : Vrd.swept f horizon (fun s => left (kl s)) = Vrd.above f horizon := by
  funext k
  unfold Vrd.swept Vrd.above
  simp only [h, Bool.false_eq_true, if_false]
theorem swept_del {horizon v : Nat} {s : ByteArray} (hf : f s = some v) (hv : v ≤ horizon) : (fun k => if k = s then none else Vrd.swept f horizon (fun z => left (kl z)) k) = Vrd.swept f horizon fun z => struck left s (kl z) := by
  funext k
  by_cases e : k = s
  · subst e
    rw [if_pos rfl]
    unfold Vrd.swept
    simp only [struck_same, Bool.false_eq_true, if_false, hf]
    rw [Option.filter_some, decide_eq_false (by omega)]
    rfl
  · rw [if_neg e]
    unfold Vrd.swept
    simp only [struck_other left e]
theorem swept_stay {horizon v : Nat} {s : ByteArray} (hl : left (kl s) = true) (hf : f s = some v) (hv : ¬ v ≤ horizon) : Vrd.swept f horizon (fun z => left (kl z)) = Vrd.swept f horizon fun z => struck left s (kl z) := by
  funext k
  by_cases e : k = s
  · subst e
    unfold Vrd.swept
    simp only [struck_same, Bool.false_eq_true, if_false, hl, if_true, hf]
    rw [Option.filter_some, decide_eq_true (by omega)]
    rfl
  · unfold Vrd.swept
    simp only [struck_other left e]
theorem swept_at {horizon v : Nat} {s : ByteArray} (hl : left (kl s) = true) (hf : Vrd.swept f horizon (fun z => left (kl z)) s = some v) : f s = some v := by
  unfold Vrd.swept at hf
  simpa only [hl, if_true] using hf
theorem note_at {B : Nat} (h : Rd w B A (noteCells rows)) {i : Nat} (hi : i < rows.length) : ∃ bb off, A = some ⟨bb, off, none⟩ ∧ bb < B ∧ w.cell? ⟨bb, off + i * 2, none⟩ = some (.int .u64 (rows[i].1 : Int)) := by
  obtain ⟨bb, off, e, hb, hc⟩ := Rd.fieldAt (s := 2) (rows := rows.map fun r => [Value.int .u64 (r.1 : Int), r.2]) h (by intro r hr; obtain ⟨x, _, rfl⟩ := List.mem_map.1 hr; rfl) (i := i) (by simpa using hi) (by decide)
  exact ⟨bb, off, e, hb, hc 0 _ (by simp)⟩
theorem noteCells_drop (rows : List (Nat × Value)) : ∀ j, (noteCells rows).drop (j * 2) = noteCells (rows.drop j) := by
  induction rows with
  | nil => intro j; simp [noteCells]
  | cons x rows ih =>
    intro j
    rcases j with _ | j
    · simp
    · have : noteCells (x :: rows) = Value.int .u64 (x.1 : Int) :: x.2 :: noteCells rows := rfl
      rw [this, show (j + 1) * 2 = (j * 2 + 1) + 1 from by omega, List.drop_succ_cons, List.drop_succ_cons, ih j]
      rfl
theorem sizeNote : (Try.prog.info? 54).map (·.size) = some 2 := by kernel_rfl
/-- What Forget leaves. -/
structure Fgt (w : World) (base g : Nat) (rows : List (Nat × Value)) (last N : Nat) (f : Vrd.Mem) (n b horizon q : Nat) (w' : World) : Prop where
  le : q ≤ n
  low : ∀ x ∈ rows.take q, x.1 ≤ horizon
  high : ∀ h : q < rows.length, horizon < rows[q].1
  vd : ∃ A' c', Vd w' base g (rows.drop q) last N (Vrd.above f horizon) A' (n - q) c' b
  below : Below base w w'
  keep : ∀ k, k < w.heap.size → k ≠ g → k ≠ b → w'.heap[k]? = w.heap[k]?
/-- In the loop of Forget that sweeps the map. -/
structure SwI (w : World) (base g : Nat) (rows : List (Nat × Value)) (last N : Nat) (f : Vrd.Mem) (horizon : Nat) (A : Option Addr) (n c b r : Nat) (left : Lit → Bool) (cnt : Nat) (wr : World) : Prop where
  blk : Blk wr g 49 #[.slice A n c, .map (some b), .int .u64 (last : Int)]
  own : wr.ownsRow base 54 2 (.slice A n c) n (noteCells rows)
  rg : RgV wr b r N (Vrd.swept f horizon fun s => left (kl s)) left cnt
  below : Below base w wr
  keep : ∀ k, k < w.heap.size → k ≠ g → k ≠ b → wr.heap[k]? = w.heap[k]?
theorem RgV.noCell (h : RgV w b r N f left cnt) {k : Nat} {t : TypeId} (hk : Ty w k t) : k ≠ r ∧ k ≠ b := by
  refine ⟨fun e => ?_, h.map.noCell hk⟩
  subst e
  obtain ⟨D, ⟨es, clock, since, seen, c0, _, _, _, _, hr, _⟩, _⟩ := h
  obtain ⟨cs, fr, h2⟩ := hk
  rw [hr] at h2
  cases h2
/-- Behind the store of the notes that are left. -/
structure MidI (w : World) (base g : Nat) (rows : List (Nat × Value)) (last N : Nat) (f : Vrd.Mem) (A : Option Addr) (n c b : Nat) (wr : World) : Prop where
  blk : Blk wr g 49 #[.slice A n c, .map (some b), .int .u64 (last : Int)]
  own : wr.ownsRow base 54 2 (.slice A n c) n (noteCells rows)
  map : MapIs wr b N f
  below : Below base w wr
  keep : ∀ k, k < w.heap.size → k ≠ g → k ≠ b → wr.heap[k]? = w.heap[k]?
theorem mid_of {m c3 : Nat} {A3 : Option Addr} {rows' : List (Nat × Value)} (h : Vd w base g rows last N f A n c b) (ho : w1.ownsRow w.heap.size 54 2 (.slice A3 m c3) m (noteCells rows')) (hb : Below w.heap.size w w1) :
    MidI w base g rows' last N f A3 m c3 b (w1.setCell ⟨g, 0, none⟩ (.slice A3 m c3)) := by
  have hgl := h.blk.lt
  have hk1 := h.blk.below hb hgl
  have hm1 := h.map.below hb
  refine ⟨hk1.set 0 _, own_lowerS (own_same ho (Same.setCell (ts := [49]) (i := 0) hk1 (by decide) _) (by decide)) (Nat.le_trans h.hg (Nat.le_of_lt hgl)), ?_, ?_, ?_⟩
  · exact hm1.heap (heap_setCell_other w1 ⟨g, 0, none⟩ b _ (fun e => hm1.noCell hk1.ty e.symm))
  · exact (hb.mono (Nat.le_trans h.hg (Nat.le_of_lt hgl))).setCell h.hg _
  · intro k hk hkg _
    exact (heap_setCell_other w1 ⟨g, 0, none⟩ k _ hkg).trans (hb.block k hk)
set_option maxHeartbeats 2000000 in
theorem vdForget (h : Vd w base g rows last N f A n c b) (horizon : Nat) (hh : horizon < 18446744073709551616) (hrow : ∀ x ∈ rows, x.2.oneCell' = true) (hfm : ∀ k s, f k = some s → ∃ x ∈ rows, x.1 = s) (hn : n ≤ 65536) (hN : N ≤ 65536) :
    Calls Try.prog 14 #[.pointer (some ⟨g, 0, none⟩), .int .u64 (horizon : Int)] w fun e w' => ∃ q : Nat, e = .returned (.int .i64 (q : Int)) ∧ Fgt w base g rows last N f n b horizon q w' := by
  have h0 := h.c0
  have h1 := h.c1
  have HNO := Lib.hid (vdNone g b w h.c1)
  have HV := Lib.hid h
  have HRW := Lib.hid hrow
  have HFM := Lib.hid hfm
  have HRN := Lib.hid h.hn
  have hcap := own_capS h.own
  obtain ⟨i1, hj, hy0, hy1, hy2⟩ := info_parts infoNote
  have HJ := Lib.hid hj
  have HY0 := Lib.hid hy0
  have HY1 := Lib.hid hy1
  have HY2 := Lib.hid hy2
  have hbase : base ≤ w.heap.size := Nat.le_trans h.hg (Nat.le_of_lt h.blk.lt)
  clear h hrow hfm hj hy0 hy1 hy2
  go_enter Try.func14, Try.ntmps14
  go_wp2_with (go_at_call 16; refine HNO.out.mono ?_; rintro e w' ⟨rfl, rfl⟩)
  go_loopw [5] (fun i wr => ∃ j : Nat, i = .int .i64 j ∧ j ≤ n ∧ Hid (∀ x ∈ rows.take j, x.1 ≤ horizon) ∧ wr = w') (fun i _ => n - (intOf i).toNat)
  case atStart => exact ⟨0, rfl, Nat.zero_le _, (fun x hx => by cases hx), by first | rfl | trivial⟩
  case round =>
    rename World => wx
    obtain ⟨j, rfl, hj, hlow, rfl⟩ := hrel
    have hfr := HV.out.blk.frozen 0
    by_cases hlt : j < n
    · have hjr : j < rows.length := by rw [HRN.out]; exact hlt
      obtain ⟨bb, off, rfl, _, hc⟩ := note_at (Rd.of_ownS HV.out.own) hjr
      by_cases hle : rows[j].1 ≤ horizon
      · have HNX : Hid (∀ x ∈ rows.take (j + 1), x.1 ≤ horizon) := fun x hx => by
          rw [List.take_succ_eq_append_getElem hjr] at hx
          rcases List.mem_append.1 hx with h1 | h1
          · exact hlow.out x h1
          · rw [List.mem_singleton.1 h1]
            exact hle
        have hd : decide ((rows[j].1 : Int) ≤ (horizon : Int)) = true := by simp; omega
        clear hlow
        generalize rows[j].1 = v at *
        go_wp2
        exact ⟨⟨j + 1, by go_num, hlt, HNX, by first | rfl | trivial⟩, by simp [intOf]; omega⟩
      · have HHI : Hid (∀ h : j < rows.length, horizon < rows[j].1) := fun _ => by omega
        have hd : decide ((rows[j].1 : Int) ≤ (horizon : Int)) = false := by simp; omega
        generalize rows[j].1 = v at hc hd hle
        have hsl := fun W : World => run_cut_fromS (P := Try.prog) 2 46 54 Try.underlying46 sizeNote (some ⟨bb, off, none⟩) n c j .i64 hj W
        have HCU : Hid (Rd wx wx.heap.size (cutS (some ⟨bb, off, none⟩) c j 2) (noteCells (rows.drop j))) := by
          have := Rd.cutS (Rd.of_ownS HV.out.own) (c := c) (k := j) (s := 2) (by decide) (by rw [noteCells_length, HRN.out]; omega)
          rwa [noteCells_drop] at this
        have HNL : Hid ((noteCells (rows.drop j)).length = (n - j) * 2) := by (show _ = _; rw [noteCells_length, List.length_drop, HRN.out])
        have HON := Lib.hid (noteCells_one (rows := rows.drop j) (fun x hx => HRW.out x (List.mem_of_mem_drop hx)))
        go_upto_region 7 with (at_builtin; refine wpList_appN rfl (.const (.slice none 0 0)) (.tmp 37) _ rfl wx.heap.size 2 54 i1 _ 32 Try.underlying46 HJ.out HY0.out HY1.out HY2.out rfl (by decide) none 0 0 [] rfl (World.ownsRow_nil _ _ _ _) _ (cutS (some ⟨bb, off, none⟩) c j 2) (n - j) (c - j) (noteCells (rows.drop j)) rfl HNL.out HCU.out HON.out (by unfold maxLen; omega) (by omega) (Nat.le_refl _) ?_; intro A3 c3 w3 ho3 hg3 hb3; rw [Nat.zero_add] at ho3 ⊢; rw [List.nil_append] at ho3; have HMD := Lib.hid (mid_of HV.out ho3 hb3); have p0 := (HV.out.below hb3).c0; have p1 := (HV.out.below hb3).blk.frozen 0; clear ho3 hg3 hb3)
        generalize (w3.setCell ⟨g, 0, none⟩ (.slice A3 (n - j) c3)) = w4 at *
        have s0 := HMD.out.blk.cell 0
        have s1 := HMD.out.blk.cell 1
        obtain ⟨m, hm⟩ : ∃ m, n - j = m := ⟨_, rfl⟩
        rw [hm] at HMD s0 ⊢
        have hmn : 0 < m := by omega
        have HMM := Lib.hid hm
        clear hm
        have hm0 : ((m : Int) == 0) = false := by simp; omega
        clear hsl HCU HNL HON p0 p1 h0 h1 hc hfr
        go_wp2_with (at_range; refine wpList_rangeV rfl (.tmp 55) rfl rfl HMD.out.map ?_; intro w5 left cnt hrg hcn hlf hg5 hs5)
        have hz4 : wx.heap.size ≤ w4.heap.size := HMD.out.below.size
        have H0 : Hid (SwI wx base g (rows.drop j) last N f horizon A3 m c3 b w4.heap.size left cnt w5) := by
          have hbk : ∀ k, k < w4.heap.size → w5.heap[k]? = w4.heap[k]? := fun k hk => hg5.block k hk (by simp)
          have hsm : Same [] w4 w5 := fun k t hk _ => hbk k hk.lt
          refine ⟨HMD.out.blk.same hsm (by simp), own_same HMD.out.own hsm (by simp), by rw [swept_start horizon hlf]; exact hrg, HMD.out.below.trans ⟨hg5.os, hg5.tape, hg5.output, hg5.size, fun k hk => hbk k (by omega)⟩, fun k hk h1 h2 => (hbk k (by omega)).trans (HMD.out.keep k hk h1 h2)⟩
        clear hrg hcn hlf hg5 hs5 s0 s1
        have hrz : wx.heap.size ≤ w4.heap.size := hz4
        have hbl : b < wx.heap.size := HV.out.map.lt
        generalize w4.heap.size = r at *
        go_frame
        go_loopw [57] (fun _ wq => ∃ (left : Lit → Bool) (cnt : Nat), Hid (SwI wx base g (rows.drop j) last N f horizon A3 m c3 b r left cnt wq)) (fun _ wq => wq.rangeLeft b r)
        case atStart => exact ⟨left, cnt, H0⟩
        case round =>
          clear H0
          obtain ⟨left, cnt, hI⟩ := hrel
          have s1 := hI.out.blk.cell 1
          have HRG := Lib.hid hI.out.rg
          have hbw : base ≤ wx.heap.size := hbase
          go_wp2_with (at_next; refine wpList_nextV rfl (.tmp 56) rfl rfl HRG.out ?_ ?_)
          · intro hc0 hl0
            have HMP : Hid (MapIs wr b N (Vrd.above f horizon)) := by
              have := hI.out.rg.map
              rwa [swept_end horizon hl0] at this
            go_wp2
            go_ret
            refine ⟨j, rfl, ⟨hj, hlow.out, HHI.out, ⟨A3, c3, ?_⟩, hI.out.below, hI.out.keep⟩⟩
            rw [HMM.out]
            exact ⟨hI.out.blk, hI.out.own, HMP.out, by rw [List.length_drop, HRN.out, HMM.out], HV.out.hg, HV.out.hb⟩
          · intro s v w6 cnt6 hsz hlk hf hv hrg6 hlt6 hg6 hs6 hen
            have hf' := swept_at hlk hf
            have hbk : ∀ k, k < wr.heap.size → k ≠ r → w6.heap[k]? = wr.heap[k]? := fun k hk hne => hg6.block k hk (by intro e; injection e with e; exact hne e)
            have hsm : Same [] wr w6 := fun k t hk _ => hbk k hk.lt (HRG.out.noCell hk).1
            have hzw := hI.out.below.size
            have HK6 := Lib.hid (hI.out.blk.same hsm (by simp))
            have HO6 := Lib.hid (own_same hI.out.own hsm (by simp))
            have HB6 : Hid (Below base wx w6) := hI.out.below.trans ⟨hg6.os, hg6.tape, hg6.output, hg6.size, fun k hk => hbk k (by omega) (by omega)⟩
            have HP6 : Hid (∀ k, k < wx.heap.size → k ≠ g → k ≠ b → w6.heap[k]? = wx.heap[k]?) := fun k hk h1 h2 => (hbk k (by omega) (by omega)).trans (hI.out.keep k hk h1 h2)
            have HRG6 := Lib.hid hrg6
            have s2 := HK6.out.cell 1
            have hbr : r ≠ b := HRG.out.ne
            by_cases hvh : v ≤ horizon
            · have hd2 : decide ((v : Int) ≤ (horizon : Int)) = true := by simp; omega
              have HST := Lib.hid (swept_del (left := left) hf' hvh)
              clear hI s1 hrg6 hbk hsm hf hf'
              go_wp2_with (first | (refine wpList_deleteV rfl (.tmp 68) (.tmp 69) rfl rfl HRG6.out s rfl hsz ?_; intro w7 cnt7 hrg7 hle7 hg7; rw [HST.out, struck_twice] at hrg7; have HRG7 := Lib.hid hrg7; have HG7 := Lib.hid hg7; clear hrg7 hg7; go_frame))
              have hbk7 : ∀ k, k < w6.heap.size → k ≠ b → w7.heap[k]? = w6.heap[k]? := fun k hk hne => HG7.out.block k hk (by intro e; injection e with e; exact hne e)
              have hsm7 : Same [] w6 w7 := fun k t hk _ => hbk7 k hk.lt (HRG6.out.noCell hk).2
              have hz6 := HB6.out.size
              have hbb : base ≤ b := HV.out.hb
              go_roundw
              case rel => exact ⟨struck left s, cnt7, ⟨HK6.out.same hsm7 (by simp), own_same HO6.out hsm7 (by simp), HRG7.out, HB6.out.trans ⟨HG7.out.os, HG7.out.tape, HG7.out.output, HG7.out.size, fun k hk => hbk7 k (by omega) (by omega)⟩, fun k hk h1 h2 => (hbk7 k (by omega) h2).trans (HP6.out k hk h1 h2)⟩⟩
              case measure =>
                rw [HRG7.out.left_eq, HRG.out.left_eq]
                omega
            · have hd2 : decide ((v : Int) ≤ (horizon : Int)) = false := by simp; omega
              have HST := Lib.hid (swept_stay hlk hf' hvh)
              clear hI s1 hrg6 hbk hsm hf hf'
              go_wp2
              go_roundw
              case rel => exact ⟨struck left s, cnt6, ⟨HK6.out, HO6.out, by rw [← HST.out]; exact HRG6.out, HB6.out, HP6.out⟩⟩
              case measure =>
                rw [HRG6.out.left_eq, HRG.out.left_eq]
                exact hlt6
    · have HJN : Hid (j = n) := by (show _ = _; omega)
      have HHI : Hid (∀ h : j < rows.length, horizon < rows[j].1) := fun h => by rw [HRN.out, HJN.out] at h; omega
      have HAB : Hid (Vrd.none_ = Vrd.above f horizon) := by
        show _ = _
        funext k
        unfold Vrd.none_ Vrd.above
        cases hfk : f k with
        | none => rfl
        | some v =>
          obtain ⟨x, hx, rfl⟩ := HFM.out k v hfk
          have := hlow.out x (by rw [List.take_of_length_le (by rw [HRN.out, HJN.out]; exact Nat.le_refl _)]; exact hx)
          rw [Option.filter_some, decide_eq_false (by omega)]
          rfl
      have hsl := fun W : World => run_cut_fromS (P := Try.prog) 2 46 54 Try.underlying46 sizeNote A n c j .i64 hj W
      have HCU : Hid (Rd wx wx.heap.size (cutS A c j 2) (noteCells (rows.drop j))) := by
        have := Rd.cutS (Rd.of_ownS HV.out.own) (c := c) (k := j) (s := 2) (by decide) (by rw [noteCells_length, HRN.out]; omega)
        rwa [noteCells_drop] at this
      have HNL : Hid ((noteCells (rows.drop j)).length = (n - j) * 2) := by (show _ = _; rw [noteCells_length, List.length_drop, HRN.out])
      have HON := Lib.hid (noteCells_one (rows := rows.drop j) (fun x hx => HRW.out x (List.mem_of_mem_drop hx)))
      go_upto_region 7 with (at_builtin; go_loud (refine wpList_appN rfl (.const (.slice none 0 0)) (.tmp 37) _ rfl wx.heap.size 2 54 i1 _ 32 Try.underlying46 HJ.out HY0.out HY1.out HY2.out rfl (by decide) none 0 0 [] rfl (World.ownsRow_nil _ _ _ _) _ (cutS A c j 2) (n - j) (c - j) (noteCells (rows.drop j)) rfl HNL.out HCU.out HON.out (by unfold maxLen; omega) (by omega) (Nat.le_refl _) ?_; intro A3 c3 w3 ho3 hg3 hb3; rw [Nat.zero_add] at ho3 ⊢; rw [List.nil_append] at ho3; have HMD := Lib.hid (mid_of HV.out ho3 hb3); have p0 := (HV.out.below hb3).c0; have p1 := (HV.out.below hb3).blk.frozen 0; clear ho3 hg3 hb3))
      generalize (w3.setCell ⟨g, 0, none⟩ (.slice A3 (n - j) c3)) = w4 at *
      have s0 := HMD.out.blk.cell 0
      have s1 := HMD.out.blk.cell 1
      obtain ⟨m, hm⟩ : ∃ m, n - j = m := ⟨_, rfl⟩
      rw [hm] at HMD s0 ⊢
      have hjn := HJN.out
      have hm0 : m = 0 := by omega
      have HMM := Lib.hid hm
      clear hjn hm
      have hm00 : ((m : Int) == 0) = true := by simp; omega
      clear hsl HCU HNL HON p0 p1 h0 h1 hfr
      go_wp2_with (refine wpList_clearV rfl (.tmp 50) rfl rfl HMD.out.map ?_; intro w5 hm5 hg5; have HM5 := Lib.hid hm5; have HG5 := Lib.hid hg5; clear hm5 hg5)
      go_ret
      have hz4 : wx.heap.size ≤ w4.heap.size := HMD.out.below.size
      have hbb : base ≤ b := HV.out.hb
      have hbk7 : ∀ k, k < w4.heap.size → k ≠ b → w5.heap[k]? = w4.heap[k]? := fun k hk hne => HG5.out.block k hk (by intro e; injection e with e; exact hne e)
      have hsm7 : Same [] w4 w5 := fun k t hk _ => hbk7 k hk.lt (HMD.out.map.noCell hk)
      refine ⟨j, rfl, ⟨hj, hlow.out, HHI.out, ⟨A3, c3, ?_⟩, HMD.out.below.trans ⟨HG5.out.os, HG5.out.tape, HG5.out.output, HG5.out.size, fun k hk => hbk7 k (by omega) (by omega)⟩, fun k hk h1 h2 => (hbk7 k (by omega) h2).trans (HMD.out.keep k hk h1 h2)⟩⟩
      rw [HMM.out, ← HAB.out]
      exact ⟨HMD.out.blk.same hsm7 (by simp), own_same HMD.out.own hsm7 (by simp), HM5.out.mono (Nat.zero_le _), by rw [List.length_drop, HRN.out, HMM.out], HV.out.hg, HV.out.hb⟩
end Cib
