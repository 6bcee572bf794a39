/- blob.reader, its closures, GetBytes. -/
import Derived.Test.YtmabmhiombnngaaFrmM
import Derived.Test.YtmabmhiombnngaaApp
set_option linter.unusedVariables false
set_option linter.unusedSimpArgs false
set_option maxRecDepth 40000
namespace Cib
open Go Go.RowKit Go.Proofs
def pt (g : Nat) : Value := .pointer (some ⟨g, 0, none⟩)
theorem blobReader (A : Option Addr) (n c : Nat) (at_ : Int) (w : World) :
    Calls Try.prog 53 #[.slice A n c, .int .i64 at_] w fun e W' => e = .returned (.tuple #[.func (.func 59) #[] #[.pointer (some ⟨w.heap.size + 1 + 1, 0, none⟩), .pointer (some ⟨w.heap.size, 0, none⟩), .pointer (some ⟨w.heap.size + 1, 0, none⟩)], .func (.func 60) #[] #[.pointer (some ⟨w.heap.size + 1, 0, none⟩), .pointer (some ⟨w.heap.size + 1 + 1, 0, none⟩)]]) ∧ TkI (w.heap.size + 1 + 1) w.heap.size (w.heap.size + 1) A n c (at_, 0) W' ∧ Below w.heap.size w W' ∧ W'.heap.size = w.heap.size + 1 + 1 + 1 := by
  have H1 := Lib.hid (Blk.new w 26 #[.slice A n c])
  have H2 := Lib.hid (Blk.new (w.alloc (.cells #[.slice A n c] 26)) 3 #[.int .i64 at_])
  have H3 := Lib.hid (Blk.new ((w.alloc (.cells #[.slice A n c] 26)).alloc (.cells #[.int .i64 at_] 3)) 30 #[.int .i64 0])
  have H3f := H3.out.frozen 0
  simp only [World.size_alloc] at H3f
  have H3c := H3.out.cell 0
  simp only [World.size_alloc, List.getElem?_toArray, List.getElem?_cons_zero] at H3c
  go_enter Try.func53, Try.ntmps53
  go_wp2
  go_ret2
  refine ⟨rfl, ⟨?_, ?_, ?_⟩, ?_, ?_⟩
  · have := H3.out
    simpa using this
  · exact (H1.out.alloc _).alloc _
  · have := (H2.out.alloc (.cells #[.int .i64 0] 30))
    simpa using this
  · exact ((((Below.refl _ _).alloc (Nat.le_refl _) _).alloc (by simp) _).alloc (by simp; omega) _)
  · simp
theorem blobEnd (ge gb ga : Nat) (A : Option Addr) (n c : Nat) (st : Frm.St) (W : World) (h : TkI ge gb ga A n c st W) :
    Calls Try.prog 60 #[.pointer (some ⟨ga, 0, none⟩), .pointer (some ⟨ge, 0, none⟩)] W fun e W' => e = .returned (.tuple #[.int .i64 st.1, .int .i64 (st.2 : Int)]) ∧ Below W.heap.size W W' := by
  have he := h.e.cell 0
  have ha := h.a.cell 0
  have hge := h.e.lt
  have hga := h.a.lt
  simp only [List.getElem?_toArray, List.getElem?_cons_zero] at he ha
  clear h
  have hB := below_drewN (Below.refl W.heap.size W) 1
  go_enter Try.func60, Try.ntmps60
  go_wp2
  refine wp_region_held_drew (S := (fun wQq => Below (World.heap (W.drew)).size (W.drew) wQq)) (by kernel_rfl) (by exact Below.refl _ _) (fun _ => ?_)
  refine wpAnyH_take (i := 0) (v := ?_) rfl (by kernel_rfl) (by kernel_rfl) (by kernel_rfl) (fun _ _ _ h => h) (Or.inl ⟨by rfl, ?_⟩) (Below.refl _ _) ?_
  rotate_left
  · intro wS hSw
    have hcv := ((hSw.cell (p := ⟨ga, 0, none⟩) (by exact hga)).trans ha)
    go_simp
    try with_reducible rfl
  try simp only [List.getElem_toArray, List.getElem_cons_zero, List.getElem_cons_succ, Act.put, List.setIfInBounds_toArray, List.set_cons_zero, List.set_cons_succ]
  refine wpAnyH_take (i := 2) (v := ?_) rfl (by kernel_rfl) (by kernel_rfl) (by kernel_rfl) (fun _ _ _ h => h) (Or.inl ⟨by rfl, ?_⟩) (Below.refl _ _) ?_
  rotate_left
  · intro wS hSw
    go_simp
    try with_reducible rfl
  try simp only [List.getElem_toArray, List.getElem_cons_zero, List.getElem_cons_succ, Act.put, List.setIfInBounds_toArray, List.set_cons_zero, List.set_cons_succ]
  refine wpAnyH_take (i := 1) (v := ?_) rfl (by kernel_rfl) (by kernel_rfl) (by kernel_rfl) (fun _ _ _ h => h) (Or.inl ⟨by rfl, ?_⟩) (Below.refl _ _) ?_
  rotate_left
  · intro wS hSw
    have hcv := ((hSw.cell (p := ⟨ge, 0, none⟩) (by exact hge)).trans he)
    go_simp
    try with_reducible rfl
  try simp only [List.getElem_toArray, List.getElem_cons_zero, List.getElem_cons_succ, Act.put, List.setIfInBounds_toArray, List.set_cons_zero, List.set_cons_succ]
  refine wpAnyH_take (i := 3) (v := ?_) rfl (by kernel_rfl) (by kernel_rfl) (by kernel_rfl) (fun _ _ _ h => h) (Or.inl ⟨by rfl, ?_⟩) (Below.refl _ _) ?_
  rotate_left
  · intro wS hSw
    go_simp
    try with_reducible rfl
  try simp only [List.getElem_toArray, List.getElem_cons_zero, List.getElem_cons_succ, Act.put, List.setIfInBounds_toArray, List.set_cons_zero, List.set_cons_succ]
  refine wpAnyH_done (by kernel_rfl) ?_ _
  go_wp2
  go_ret2
  exact ⟨rfl, hB⟩
theorem var_pos (bs : List UInt8) (at_ : Int) : 0 ≤ (Num.var bs at_).2.1 ∧ (Num.var bs at_).2.1 ≤ bs.length := by
  by_cases h : (Num.var bs at_).2.2 = 0
  · obtain ⟨a, P, e1, e2, e3, e4, e5, e6⟩ := Frm.var_inv h
    omega
  · unfold Num.var at h ⊢
    by_cases hc : at_ < 0 ∨ (bs.length : Int) < at_
    · rw [if_pos hc]
      simp
    · rw [if_neg hc] at h ⊢
      simp only at h ⊢
      rw [if_neg h]
      omega
theorem take_pos {bs : List UInt8} {st : Frm.St} (most : Nat) (h : 0 ≤ st.1 ∧ st.1 ≤ 9223372036854775807) (hl : bs.length ≤ 140737488355328) : 0 ≤ (Frm.rdTake bs most st).2.1 ∧ (Frm.rdTake bs most st).2.1 ≤ 9223372036854775807 := by
  have := var_pos bs st.1
  unfold Frm.rdTake
  split
  · exact h
  · split
    · simp only; omega
    · split
      · simp only; omega
      · simp only; omega
theorem take_le (bs : List UInt8) (st : Frm.St) (most : Nat) : (Frm.rdTake bs most st).1 ≤ most := by
  unfold Frm.rdTake
  split
  · exact Nat.zero_le _
  · split
    · exact Nat.zero_le _
    · split
      · exact Nat.zero_le _
      · simp only; omega
theorem own_from {w w' : World} {B sz n : Nat} {e : TypeId} {v : Value} {xs : List Value} (h : w.ownsRow B e sz v n xs) (hk : ∀ k, B ≤ k → k < w.heap.size → w'.heap[k]? = w.heap[k]?) : w'.ownsRow B e sz v n xs := by
  refine ⟨h.1, ?_⟩
  rcases h.2 with h0 | ⟨g, cap, cur, hv, h1, h2, h3⟩
  · exact .inl h0
  · exact .inr ⟨g, cap, cur, hv, h1, (hk g h1 (Array.getElem?_eq_some_iff.1 h2).1).trans h2, h3⟩
theorem own_at2 {w w' : World} {ge ga B : Nat} {e : TypeId} {v : Value} {n : Nat} {xs : List Value} (h : w.ownsRow B e 1 v n xs) (hb : But2 ge ga w w') (h1 : ge < B) (h2 : ga < B) : w'.ownsRow B e 1 v n xs :=
  own_from h fun k hk _ => hb.oth k (by omega) (by omega)
theorem Blk.but2 {w w' : World} {ge ga g : Nat} {t cs} (h : Blk w g t cs) (hb : But2 ge ga w w') (h1 : g ≠ ge) (h2 : g ≠ ga) : Blk w' g t cs := (hb.oth g h1 h2).trans h
theorem TkI.drewN {ge gb ga : Nat} {A : Option Addr} {n c : Nat} {st : Frm.St} {W : World} (h : TkI ge gb ga A n c st W) (q : Nat) : TkI ge gb ga A n c st (W.drewN q) := ⟨h.e, h.b, h.a⟩
theorem TkI.below {ge gb ga : Nat} {A : Option Addr} {n c : Nat} {st : Frm.St} {W W' : World} (h : TkI ge gb ga A n c st W) (hb : Below W.heap.size W W') : TkI ge gb ga A n c st W' := ⟨h.e.below hb h.e.lt, h.b.below hb h.b.lt, h.a.below hb h.a.lt⟩
theorem TkI.far {ge gb ga : Nat} {A : Option Addr} {n c : Nat} {st : Frm.St} {W : World} (h : TkI ge gb ga A n c st W) {p : Addr} (h1 : ge ≠ p.block) (h2 : gb ≠ p.block) (h3 : ga ≠ p.block) (v : Value) : TkI ge gb ga A n c st (W.setCell p v) := ⟨h.e.far h1 v, h.b.far h2 v, h.a.far h3 v⟩
/-- GetBytes under way. -/
structure BlI (w : World) (gx : Nat) (A : Option Addr) (n c : Nat) (st : Frm.St) (Ap : Option Addr) (p cp : Nat) (gen S : Nat) (l : List Int) (wr : World) : Prop where
  tk : TkI (w.heap.size + 1 + 1 + 1) (w.heap.size + 1) (w.heap.size + 1 + 1) A n c st wr
  gt : w.heap.size + 1 + 1 + 1 < gx
  x : Blk wr gx 55 #[.slice Ap p cp, .int .u64 (gen : Int), .int .i64 (S : Int)]
  r : Blk wr w.heap.size 55 #[.slice none 0 0, .int .u64 0, .int .i64 0]
  own : wr.ownsRow (gx + 1) 3 1 (.slice Ap p cp) p (l.map (Value.int .i64))
  bel : Below w.heap.size w wr
section
variable {w wr wr' : World} {gx : Nat} {A : Option Addr} {n c : Nat} {st st' : Frm.St} {Ap : Option Addr} {p cp : Nat} {gen S : Nat} {l : List Int}
theorem BlI.take (h : BlI w gx A n c st Ap p cp gen S l wr)
    (ht : TkI (w.heap.size + 1 + 1 + 1) (w.heap.size + 1) (w.heap.size + 1 + 1) A n c st' wr') (hb : But2 (w.heap.size + 1 + 1 + 1) (w.heap.size + 1 + 1) wr wr') : BlI w gx A n c st' Ap p cp gen S l wr' :=
  have hg := h.gt
  ⟨ht, h.gt, h.x.but2 hb (by omega) (by omega), h.r.but2 hb (by omega) (by omega), own_at2 h.own hb (by omega) (by omega), hb.bel _ _ (by omega) (by omega) h.bel⟩
theorem BlI.drewN (h : BlI w gx A n c st Ap p cp gen S l wr) (q : Nat) : BlI w gx A n c st Ap p cp gen S l (wr.drewN q) :=
  ⟨h.tk.drewN q, h.gt, h.x, h.r, h.own, below_drewN h.bel q⟩
theorem BlI.setGen (h : BlI w gx A n c st Ap p cp gen S l wr) (g : Nat) : BlI w gx A n c st Ap p cp g S l (wr.setCell ⟨gx, 1, none⟩ (.int .u64 (g : Int))) :=
  have hg := h.gt
  ⟨h.tk.far (by simp; omega) (by simp; omega) (by simp; omega) _, h.gt, h.x.set 1 _, h.r.far (by simp; omega) _, own_from h.own (fun k hk _ => heap_setCell_other wr _ k _ (by simp; omega)), h.bel.setCell (by simp; omega) _⟩
theorem BlI.alloc (h : BlI w gx A n c st Ap p cp gen S l wr) (o : Obj) : BlI w gx A n c st Ap p cp gen S l (wr.alloc o) :=
  have hb := (Below.refl wr.heap.size wr).alloc (Nat.le_refl _) o
  ⟨h.tk.below hb, h.gt, h.x.alloc _, h.r.alloc _, h.own.alloc _, h.bel.alloc h.bel.size _⟩
theorem BlI.push (h : BlI w gx A n c st Ap p cp gen S l wr) {w' : World} {A' : Option Addr} {c' : Nat} {v : Int} (ho : w'.ownsRow (gx + 1) 3 1 (.slice A' (p + 1) c') (p + 1) (l.map (Value.int .i64) ++ [.int .i64 v])) (hg : wr.grownBy w' (Value.slice Ap p cp).ownBlock) (hb : Below (gx + 1) wr w') :
    BlI w gx A n c st A' (p + 1) c' gen S (l ++ [v]) (w'.setCell ⟨gx, 0, none⟩ (.slice A' (p + 1) c')) :=
  have hq := h.gt
  have hb2 := hb.mono (show w.heap.size ≤ gx + 1 by omega)
  ⟨(⟨h.tk.e.below hb (by omega), h.tk.b.below hb (by omega), h.tk.a.below hb (by omega)⟩ : TkI _ _ _ _ _ _ _ w').far (by simp; omega) (by simp; omega) (by simp; omega) _, h.gt, (h.x.below hb (by omega)).set 0 _, (h.r.below hb (by omega)).far (by simp; omega) _,
    own_from (by rw [List.map_append]; exact ho) (fun k hk _ => heap_setCell_other w' _ k _ (by simp; omega)), (h.bel.trans hb2).setCell (by simp; omega) _⟩
end
theorem infoInt : (Try.prog.info? 3).map (fun i => (i.zero, i.size, i.bytes)) = some (some (.int .i64 0), 1, 8) := by kernel_rfl
theorem info_parts {P : Program} {e : TypeId} {z : Value} {n b : Nat} (h : (P.info? e).map (fun i => (i.zero, i.size, i.bytes)) = some (some z, n, b)) : ∃ i, P.info? e = some i ∧ i.zero = some z ∧ i.size = n ∧ i.bytes = b := by
  obtain ⟨i, h1, h2⟩ := Option.map_eq_some_iff.1 h
  injection h2 with h2 h3
  injection h3 with h3 h4
  exact ⟨i, h1, h2, h3, h4⟩
/-- Three results, the first a struct in memory. -/
theorem results_row3 {P : Program} {fn : Func} {p t u : Tmp} {ty : TypeId} (h : fn.results = #[.cell p ty, .tmp t, .tmp u]) (tmps : Array Value) (w : World) (g : Nat) (te : TypeId) (cs : Array Value) (fr : Nat × Nat) (d : TypeDesc)
    (hp : tmps.getD p undef = .pointer (some ⟨g, 0, none⟩)) (hg : w.heap[g]? = some (.cells cs te fr))
    (hu : P.underlying ty = some d) (hd : (match d with | .struct _ | .array _ _ => true | _ => false) = true) (hi : (P.info? ty).map (·.size) = some cs.size) :
    (results fn tmps).run P w = .ok (.tuple #[.agg cs, tmps.getD t undef, tmps.getD u undef]) w := by
  have hp' : tmps[p]?.getD undef = .pointer (some ⟨g, 0, none⟩) := by simpa using hp
  simp [results, h, hp', asAddr, run_loadVar_row w g te ty cs fr d hg hu hd hi]
theorem infoBlob : (Try.prog.info? 55).map (·.size) = some 3 := by kernel_rfl
set_option maxHeartbeats 4000000 in
theorem blobGet (A : Option Addr) (n c : Nat) (bs : List UInt8) (at_ : Int) (w : World) (hr : Rd w w.heap.size A (bs.map bv)) (hl : bs.length = n) (hc : n ≤ c) (hcm : c ≤ maxLen) (hn : n ≤ 140737488355328) (hat : 0 ≤ at_ ∧ at_ ≤ 9223372036854775807) :
    Calls Try.prog 45 #[.slice A n c, .int .i64 at_] w fun e W' => ∃ Ap p cp, e = .returned (.tuple #[.agg #[.slice Ap p cp, .int .u64 ((Frm.rdBlob bs at_).1.gen : Int), .int .i64 (Frm.rdBlob bs at_).1.size], .int .i64 (Frm.rdBlob bs at_).2.1, .int .i64 ((Frm.rdBlob bs at_).2.2 : Int)]) ∧ W'.ownsRow w.heap.size 3 1 (.slice Ap p cp) p ((Frm.rdBlob bs at_).1.places.map (Value.int .i64)) ∧ Below w.heap.size w W' := by
  have HTK := Lib.hid fun (st : Frm.St) (most : Nat) (W : World) (h : TkI (w.heap.size + 1 + 1 + 1) (w.heap.size + 1) (w.heap.size + 1 + 1) A n c st W) (hb : Below w.heap.size w W) (hst : 0 ≤ st.1 ∧ st.1 ≤ 9223372036854775807) (hm : most < 18446744073709551616) => blobTake (w.heap.size + 1 + 1 + 1) (w.heap.size + 1) (w.heap.size + 1 + 1) ⟨by omega, by omega, by omega⟩ A n c bs st most W h ((hr.below hb).more hb.size) hl hc hcm hst hm
  have HPO := Lib.hid fun (st : Frm.St) (most : Nat) (h : 0 ≤ st.1 ∧ st.1 ≤ 9223372036854775807) => take_pos (bs := bs) (st := st) most h (by omega)
  have HRD := Lib.hid (blobReader A n c at_ (w.alloc (.cells #[.slice none 0 0, .int .u64 0, .int .i64 0] 55)))
  simp only [World.size_alloc] at HRD
  have HB0 := Lib.hid ((Below.refl w.heap.size w).alloc (Nat.le_refl _) (.cells #[.slice none 0 0, .int .u64 0, .int .i64 0] 55))
  have HR0 := Lib.hid (Blk.new w 55 #[.slice none 0 0, .int .u64 0, .int .i64 0])
  have HP1 := HPO.out (at_, 0) 400 hat
  have HP2 := HPO.out (Frm.rdTake bs 400 (at_, 0)).2 18446744073709551615 HP1
  have HP3 := HPO.out (Frm.rdTake bs 18446744073709551615 (Frm.rdTake bs 400 (at_, 0)).2).2 400 HP2
  have HL1 := take_le bs (at_, 0) 400
  have HL2 := take_le bs (Frm.rdTake bs 400 (at_, 0)).2 18446744073709551615
  have HL3 := take_le bs (Frm.rdTake bs 18446744073709551615 (Frm.rdTake bs 400 (at_, 0)).2).2 400
  have hT1 := HTK.out (at_, 0) 400
  have hT2 := HTK.out (Frm.rdTake bs 400 (at_, 0)).2 18446744073709551615
  have hT3 := HTK.out (Frm.rdTake bs 18446744073709551615 (Frm.rdTake bs 400 (at_, 0)).2).2 400
  unfold Frm.rdBlob
  simp only
  generalize Frm.rdTake bs 18446744073709551615 (Frm.rdTake bs 400 (at_, 0)).2 = R2 at *
  generalize Frm.rdTake bs 400 (at_, 0) = R1 at *
  generalize Frm.rdTake bs 400 R2.2 = R3 at *
  obtain ⟨S, s1⟩ := R1
  obtain ⟨gen, s2⟩ := R2
  obtain ⟨N, s3⟩ := R3
  simp only at HP1 HP2 HP3 HL1 HL2 HL3 hT2 hT3 ⊢
  obtain ⟨L, hL⟩ : ∃ L, Frm.rdPlaces bs N s3 = L := ⟨_, rfl⟩
  rw [hL]
  have HL := Lib.hid hL
  clear hL
  have HT1 := Lib.hid hT1
  have HT2 := Lib.hid hT2
  have HT3 := Lib.hid hT3
  have HQ1 := Lib.hid HP1
  have HQ2 := Lib.hid HP2
  have HQ3 := Lib.hid HP3
  have HAT := Lib.hid hat
  have hwS : IntKind.i64.wrap (S : Int) = (S : Int) := by rw [IntKind.wrap_i64] <;> omega
  clear hT1 hT2 hT3 hr hl HP1 HP2 HP3 hat
  go_enter Try.func45, Try.ntmps45
  go_wp2_with fail
  refine HRD.out.mono ?_
  rintro e w1 ⟨rfl, ht1, hb1, hs1⟩
  have HT := Lib.hid ht1
  have HB1 := Lib.hid (HB0.out.trans (hb1.mono (Nat.le_succ _)))
  have HR1 : Hid (Blk w1 w.heap.size 55 #[.slice none 0 0, .int .u64 0, .int .i64 0]) := Lib.hid (HR0.out.below hb1 (Nat.lt_succ_self _))
  have HS1 := Lib.hid hs1
  clear ht1 hb1 hs1 HB0 HR0 HRD
  go_wp2_with fail
  refine (HT1.out w1 HT.out HB1.out HAT.out (by omega)).mono ?_
  rintro e w2 ⟨rfl, ht2, hb2⟩
  have HI2 : Hid (BlI w w2.heap.size A n c s1 none 0 0 0 S [] (w2.alloc (.cells #[.slice none 0 0, .int .u64 0, .int .i64 (S : Int)] 55))) := Lib.hid (by
    have hsz := HS1.out
    have hz := hb2.size
    exact ⟨ht2.below ((Below.refl _ _).alloc (Nat.le_refl _) _), by omega, Blk.new _ _ _, (HR1.out.but2 hb2 (by omega) (by omega)).alloc _, World.ownsRow_nil _ _ _ _, (hb2.bel _ _ (by omega) (by omega) HB1.out).alloc (by omega) _⟩)
  clear ht2 hb2 HT HB1 HR1 HS1 HT1
  go_wp2_with fail
  refine (HT2.out _ HI2.out.tk HI2.out.bel HQ1.out (by omega)).mono ?_
  rintro e w3 ⟨rfl, ht3, hb3⟩
  have HI3 := Lib.hid (HI2.out.take ht3 hb3)
  have HI4 := Lib.hid (HI3.out.setGen gen)
  have hf3 := HI3.out.x.frozen 1
  have hc3 := HI3.out.x.cell 1
  simp only [List.getElem?_toArray, List.getElem?_cons_zero, List.getElem?_cons_succ] at hc3
  clear ht3 hb3 HT2 HI2 HI3
  go_wp2_with fail
  refine (HT3.out _ HI4.out.tk HI4.out.bel HQ2.out (by omega)).mono ?_
  rintro e w4 ⟨rfl, ht4, hb4⟩
  have HI5 := Lib.hid (HI4.out.take ht4 hb4)
  clear ht4 hb4 HT3 HI4 hf3 hc3
  go_wp2_with fail
  go_loopw [27] (fun i wr => ∃ (p : Nat) (Ap : Option Addr) (cp : Nat) (st : Frm.St) (l : List Int), i = .int .u64 p ∧ p ≤ N ∧ Hid (BlI w w2.heap.size A n c st Ap p cp gen S l wr) ∧ Hid (0 ≤ st.1 ∧ st.1 ≤ 9223372036854775807) ∧ Hid (L = (l ++ (Frm.rdPlaces bs (N - p) st).1, (Frm.rdPlaces bs (N - p) st).2))) (fun i _ => N - (intOf i).toNat)
  case atStart => exact ⟨0, none, 0, s3, [], rfl, Nat.zero_le _, HI5, HQ3, Lib.hid (by rw [← HL.out]; rfl)⟩
  case round =>
    clear HI5 HQ3 HL HQ1 HQ2
    obtain ⟨p, Ap, cp, st, l, rfl, hp, HI, HQ, HE⟩ := hrel
    by_cases hlt : p < N
    · have HT := Lib.hid (HTK.out st 599)
      have HPN := Lib.hid (HPO.out st 599 HQ.out)
      have HLE := take_le bs st 599
      have HE2 : Hid (L = ((l ++ [((Frm.rdTake bs 599 st).1 : Int)]) ++ (Frm.rdPlaces bs (N - (p + 1)) (Frm.rdTake bs 599 st).2).1, (Frm.rdPlaces bs (N - (p + 1)) (Frm.rdTake bs 599 st).2).2)) := Lib.hid (by
        rw [HE.out, show N - p = (N - (p + 1)) + 1 from by omega, Frm.rdPlaces]
        simp)
      clear HE
      generalize Frm.rdTake bs 599 st = R at *
      obtain ⟨v, st'⟩ := R
      simp only at HT HPN HLE HE2
      have hwv : IntKind.i64.wrap (v : Int) = (v : Int) := by rw [IntKind.wrap_i64] <;> omega
      have HId : Hid (BlI w w2.heap.size A n c st Ap p cp gen S l wr.drew) := Lib.hid (HI.out.drewN 1)
      clear HI
      go_wp2_with fail
      have hcm := HId.out.x.cell 0
      simp only [List.getElem?_toArray, List.getElem?_cons_zero] at hcm
      refine wp_region_held_drew (S := (fun _ => True)) (by kernel_rfl) trivial (fun _ => ?_)
      refine wpAnyH_take (i := 0) (v := ?_) rfl (by kernel_rfl) (by kernel_rfl) (by kernel_rfl) (fun _ _ _ h => h) (Or.inl ⟨by rfl, ?_⟩) trivial ?_
      rotate_left
      · intro wS hSw
        go_simp
        try with_reducible rfl
      try simp only [List.getElem_toArray, List.getElem_cons_zero, List.getElem_cons_succ, Act.put, List.setIfInBounds_toArray, List.set_cons_zero, List.set_cons_succ]
      refine wpAnyH_take (i := 2) (v := ?_) rfl (by kernel_rfl) (by kernel_rfl) (by kernel_rfl) (fun _ _ _ h => h) (Or.inl ⟨by rfl, ?_⟩) trivial ?_
      rotate_left
      · intro wS hSw
        go_simp
        try with_reducible rfl
      try simp only [List.getElem_toArray, List.getElem_cons_zero, List.getElem_cons_succ, Act.put, List.setIfInBounds_toArray, List.set_cons_zero, List.set_cons_succ]
      refine wpAnyH_ready (rs := [1, 3]) (by kernel_rfl) (by simp) ?_
      refine AllReadyH.cons rfl (fun K hK => ?_) (AllReadyH.cons rfl (fun K hK => ?_) AllReadyH.nil)
      · go_simp
        refine hK.out _ _ trivial (fun _ => ?_)
        clear hK K
        try simp only [List.getElem_toArray, List.getElem_cons_zero, List.getElem_cons_succ, Act.put, List.setIfInBounds_toArray, List.set_cons_zero, List.set_cons_succ]
        refine wpAnyH_ready (rs := [3]) (by kernel_rfl) (by simp) ?_
        refine AllReadyH.cons rfl (fun K hK => ?_) AllReadyH.nil
        go_simp
        refine (HT.out _ HId.out.tk HId.out.bel HQ.out (by omega)).mono ?_
        rintro e w5 ⟨rfl, ht5, hb5⟩
        have HI5 := Lib.hid (HId.out.take ht5 hb5)
        have HI6 := Lib.hid (HI5.out.alloc (.cells #[.int .i64 (v : Int)] 3))
        have hcm3 := HI5.out.x.cell 0
        have hcm5 := HI6.out.x.cell 0
        simp only [List.getElem?_toArray, List.getElem?_cons_zero] at hcm3 hcm5
        clear ht5 hb5
        refine hK.out _ _ trivial (fun _ => ?_)
        clear hK K
        try simp only [List.getElem_toArray, List.getElem_cons_zero, List.getElem_cons_succ, Act.put, List.setIfInBounds_toArray, List.set_cons_zero, List.set_cons_succ]
        refine wpAnyH_take (i := 4) (v := ?_) rfl (by kernel_rfl) (by kernel_rfl) (by kernel_rfl) (fun _ _ _ h => h) (Or.inl ⟨by rfl, ?_⟩) trivial ?_
        rotate_left
        · intro wS hSw
          have hcv := True.intro
          go_simp
          try with_reducible rfl
        try simp only [List.getElem_toArray, List.getElem_cons_zero, List.getElem_cons_succ, Act.put, List.setIfInBounds_toArray, List.set_cons_zero, List.set_cons_succ]
        refine wpAnyH_ready (rs := [5]) (by kernel_rfl) (by simp) ?_
        refine AllReadyH.cons rfl (fun K hK => ?_) AllReadyH.nil
        go_simp
        refine hK.out _ _ trivial (fun _ => ?_)
        clear hK K
        try simp only [List.getElem_toArray, List.getElem_cons_zero, List.getElem_cons_succ, Act.put, List.setIfInBounds_toArray, List.set_cons_zero, List.set_cons_succ]
        refine wpAnyH_ready (rs := [6]) (by kernel_rfl) (by simp) ?_
        refine AllReadyH.cons rfl (fun K hK => ?_) AllReadyH.nil
        obtain ⟨i0, hi, hz0, hz1, hz2⟩ := info_parts infoInt
        refine wp_app1 (.tmp 30) (.tmp 34) 49 rfl (w2.heap.size + 1) 3 i0 _ 8 Try.underlying49 hi hz0 hz1 hz2 rfl Ap p cp (l.map (Value.int .i64)) rfl HI6.out.own _ (some ⟨w5.heap.size, 0, none⟩) 1 1 [.int .i64 (v : Int)] rfl rfl (Rd.new w5 _ _ _ rfl) (by intro u hu; rw [List.mem_singleton] at hu; subst hu; rfl) (by unfold maxLen; omega) (by omega) (by have := HI6.out.x.lt; omega) ?_
        intro A7 c7 w7 ho7 hg7 hb7
        have HI7 := Lib.hid (HI6.out.push ho7 hg7 hb7)
        have hf7 := (HI6.out.x.below hb7 (Nat.lt_succ_self _)).frozen 0
        have hc7 := (HI6.out.x.below hb7 (Nat.lt_succ_self _)).cell 0
        simp only [List.getElem?_toArray, List.getElem?_cons_zero] at hc7
        refine hK.out _ _ trivial (fun _ => ?_)
        clear hK K
        try simp only [List.getElem_toArray, List.getElem_cons_zero, List.getElem_cons_succ, Act.put, List.setIfInBounds_toArray, List.set_cons_zero, List.set_cons_succ]
        refine wpAnyH_take (i := 7) (v := ?_) rfl (by kernel_rfl) (by kernel_rfl) (by kernel_rfl) (fun _ _ _ h => h) (Or.inl ⟨by rfl, ?_⟩) trivial ?_
        rotate_left
        · intro wS hSw
          go_simp
          try with_reducible rfl
        try simp only [List.getElem_toArray, List.getElem_cons_zero, List.getElem_cons_succ, Act.put, List.setIfInBounds_toArray, List.set_cons_zero, List.set_cons_succ]
        refine wpAnyH_ready (rs := [8]) (by kernel_rfl) (by simp) ?_
        refine AllReadyH.cons rfl (fun K hK => ?_) AllReadyH.nil
        go_simp
        refine hK.out _ _ trivial (fun _ => ?_)
        clear hK K
        try simp only [List.getElem_toArray, List.getElem_cons_zero, List.getElem_cons_succ, Act.put, List.setIfInBounds_toArray, List.set_cons_zero, List.set_cons_succ]
        refine wpAnyH_done (by kernel_rfl) ?_ _
        go_wp2
        go_roundw
        case rel => exact ⟨p + 1, A7, c7, st', _, by go_num, hlt, HI7, HPN, HE2⟩
        case measure => simp [intOf]; omega
      · go_simp
        refine (HT.out _ HId.out.tk HId.out.bel HQ.out (by omega)).mono ?_
        rintro e w5 ⟨rfl, ht5, hb5⟩
        have HI5 := Lib.hid (HId.out.take ht5 hb5)
        have HI6 := Lib.hid (HI5.out.alloc (.cells #[.int .i64 (v : Int)] 3))
        have hcm3 := HI5.out.x.cell 0
        have hcm5 := HI6.out.x.cell 0
        simp only [List.getElem?_toArray, List.getElem?_cons_zero] at hcm3 hcm5
        clear ht5 hb5
        refine hK.out _ _ trivial (fun _ => ?_)
        clear hK K
        try simp only [List.getElem_toArray, List.getElem_cons_zero, List.getElem_cons_succ, Act.put, List.setIfInBounds_toArray, List.set_cons_zero, List.set_cons_succ]
        refine wpAnyH_take (i := 4) (v := ?_) rfl (by kernel_rfl) (by kernel_rfl) (by kernel_rfl) (fun _ _ _ h => h) (Or.inl ⟨by rfl, ?_⟩) trivial ?_
        rotate_left
        · intro wS hSw
          have hcv := True.intro
          go_simp
          try with_reducible rfl
        try simp only [List.getElem_toArray, List.getElem_cons_zero, List.getElem_cons_succ, Act.put, List.setIfInBounds_toArray, List.set_cons_zero, List.set_cons_succ]
        refine wpAnyH_ready (rs := [1, 5]) (by kernel_rfl) (by simp) ?_
        refine AllReadyH.cons rfl (fun K hK => ?_) (AllReadyH.cons rfl (fun K hK => ?_) AllReadyH.nil)
        · go_simp
          refine hK.out _ _ trivial (fun _ => ?_)
          clear hK K
          try simp only [List.getElem_toArray, List.getElem_cons_zero, List.getElem_cons_succ, Act.put, List.setIfInBounds_toArray, List.set_cons_zero, List.set_cons_succ]
          refine wpAnyH_ready (rs := [5]) (by kernel_rfl) (by simp) ?_
          refine AllReadyH.cons rfl (fun K hK => ?_) AllReadyH.nil
          go_simp
          refine hK.out _ _ trivial (fun _ => ?_)
          clear hK K
          try simp only [List.getElem_toArray, List.getElem_cons_zero, List.getElem_cons_succ, Act.put, List.setIfInBounds_toArray, List.set_cons_zero, List.set_cons_succ]
          refine wpAnyH_ready (rs := [6]) (by kernel_rfl) (by simp) ?_
          refine AllReadyH.cons rfl (fun K hK => ?_) AllReadyH.nil
          obtain ⟨i0, hi, hz0, hz1, hz2⟩ := info_parts infoInt
          refine wp_app1 (.tmp 30) (.tmp 34) 49 rfl (w2.heap.size + 1) 3 i0 _ 8 Try.underlying49 hi hz0 hz1 hz2 rfl Ap p cp (l.map (Value.int .i64)) rfl HI6.out.own _ (some ⟨w5.heap.size, 0, none⟩) 1 1 [.int .i64 (v : Int)] rfl rfl (Rd.new w5 _ _ _ rfl) (by intro u hu; rw [List.mem_singleton] at hu; subst hu; rfl) (by unfold maxLen; omega) (by omega) (by have := HI6.out.x.lt; omega) ?_
          intro A7 c7 w7 ho7 hg7 hb7
          have HI7 := Lib.hid (HI6.out.push ho7 hg7 hb7)
          have hf7 := (HI6.out.x.below hb7 (Nat.lt_succ_self _)).frozen 0
          have hc7 := (HI6.out.x.below hb7 (Nat.lt_succ_self _)).cell 0
          simp only [List.getElem?_toArray, List.getElem?_cons_zero] at hc7
          refine hK.out _ _ trivial (fun _ => ?_)
          clear hK K
          try simp only [List.getElem_toArray, List.getElem_cons_zero, List.getElem_cons_succ, Act.put, List.setIfInBounds_toArray, List.set_cons_zero, List.set_cons_succ]
          refine wpAnyH_take (i := 7) (v := ?_) rfl (by kernel_rfl) (by kernel_rfl) (by kernel_rfl) (fun _ _ _ h => h) (Or.inl ⟨by rfl, ?_⟩) trivial ?_
          rotate_left
          · intro wS hSw
            go_simp
            try with_reducible rfl
          try simp only [List.getElem_toArray, List.getElem_cons_zero, List.getElem_cons_succ, Act.put, List.setIfInBounds_toArray, List.set_cons_zero, List.set_cons_succ]
          refine wpAnyH_ready (rs := [8]) (by kernel_rfl) (by simp) ?_
          refine AllReadyH.cons rfl (fun K hK => ?_) AllReadyH.nil
          go_simp
          refine hK.out _ _ trivial (fun _ => ?_)
          clear hK K
          try simp only [List.getElem_toArray, List.getElem_cons_zero, List.getElem_cons_succ, Act.put, List.setIfInBounds_toArray, List.set_cons_zero, List.set_cons_succ]
          refine wpAnyH_done (by kernel_rfl) ?_ _
          go_wp2
          go_roundw
          case rel => exact ⟨p + 1, A7, c7, st', _, by go_num, hlt, HI7, HPN, HE2⟩
          case measure => simp [intOf]; omega
        · go_simp
          refine hK.out _ _ trivial (fun _ => ?_)
          clear hK K
          try simp only [List.getElem_toArray, List.getElem_cons_zero, List.getElem_cons_succ, Act.put, List.setIfInBounds_toArray, List.set_cons_zero, List.set_cons_succ]
          refine wpAnyH_ready (rs := [1]) (by kernel_rfl) (by simp) ?_
          refine AllReadyH.cons rfl (fun K hK => ?_) AllReadyH.nil
          go_simp
          refine hK.out _ _ trivial (fun _ => ?_)
          clear hK K
          try simp only [List.getElem_toArray, List.getElem_cons_zero, List.getElem_cons_succ, Act.put, List.setIfInBounds_toArray, List.set_cons_zero, List.set_cons_succ]
          refine wpAnyH_ready (rs := [6]) (by kernel_rfl) (by simp) ?_
          refine AllReadyH.cons rfl (fun K hK => ?_) AllReadyH.nil
          obtain ⟨i0, hi, hz0, hz1, hz2⟩ := info_parts infoInt
          refine wp_app1 (.tmp 30) (.tmp 34) 49 rfl (w2.heap.size + 1) 3 i0 _ 8 Try.underlying49 hi hz0 hz1 hz2 rfl Ap p cp (l.map (Value.int .i64)) rfl HI6.out.own _ (some ⟨w5.heap.size, 0, none⟩) 1 1 [.int .i64 (v : Int)] rfl rfl (Rd.new w5 _ _ _ rfl) (by intro u hu; rw [List.mem_singleton] at hu; subst hu; rfl) (by unfold maxLen; omega) (by omega) (by have := HI6.out.x.lt; omega) ?_
          intro A7 c7 w7 ho7 hg7 hb7
          have HI7 := Lib.hid (HI6.out.push ho7 hg7 hb7)
          have hf7 := (HI6.out.x.below hb7 (Nat.lt_succ_self _)).frozen 0
          have hc7 := (HI6.out.x.below hb7 (Nat.lt_succ_self _)).cell 0
          simp only [List.getElem?_toArray, List.getElem?_cons_zero] at hc7
          refine hK.out _ _ trivial (fun _ => ?_)
          clear hK K
          try simp only [List.getElem_toArray, List.getElem_cons_zero, List.getElem_cons_succ, Act.put, List.setIfInBounds_toArray, List.set_cons_zero, List.set_cons_succ]
          refine wpAnyH_take (i := 7) (v := ?_) rfl (by kernel_rfl) (by kernel_rfl) (by kernel_rfl) (fun _ _ _ h => h) (Or.inl ⟨by rfl, ?_⟩) trivial ?_
          rotate_left
          · intro wS hSw
            go_simp
            try with_reducible rfl
          try simp only [List.getElem_toArray, List.getElem_cons_zero, List.getElem_cons_succ, Act.put, List.setIfInBounds_toArray, List.set_cons_zero, List.set_cons_succ]
          refine wpAnyH_ready (rs := [8]) (by kernel_rfl) (by simp) ?_
          refine AllReadyH.cons rfl (fun K hK => ?_) AllReadyH.nil
          go_simp
          refine hK.out _ _ trivial (fun _ => ?_)
          clear hK K
          try simp only [List.getElem_toArray, List.getElem_cons_zero, List.getElem_cons_succ, Act.put, List.setIfInBounds_toArray, List.set_cons_zero, List.set_cons_succ]
          refine wpAnyH_done (by kernel_rfl) ?_ _
          go_wp2
          go_roundw
          case rel => exact ⟨p + 1, A7, c7, st', _, by go_num, hlt, HI7, HPN, HE2⟩
          case measure => simp [intOf]; omega
    · obtain rfl : p = N := by omega
      have hE := HE.out
      rw [Nat.sub_self, Frm.rdPlaces] at hE
      simp only [List.append_nil] at hE
      subst hE
      clear HE hlt hp
      have HEN := Lib.hid (blobEnd _ _ _ A n c st wr HI.out.tk)
      go_wp2_with fail
      refine HEN.out.mono ?_
      rintro e w5 ⟨rfl, hb5⟩
      have HX5 := Lib.hid (HI.out.x.below hb5 HI.out.x.lt)
      have HR5 := Lib.hid (HI.out.r.below hb5 HI.out.r.lt)
      have HO5 := Lib.hid (own_belowS HI.out.own hb5)
      have HB5 := Lib.hid (HI.out.bel.via hb5)
      have hgt := HI.out.gt
      clear hb5 HEN
      by_cases h0 : st.2 = 0
      · have hq : ((st.2 : Int) != 0) = false := by rw [h0]; rfl
        have HZ := Lib.hid h0
        clear h0
        go_wp2_with (first | (refine wpList_load_row rfl 55 (.tmp 9) rfl w2.heap.size rfl 55 _ (0, 0) _ HX5.out Try.underlying55 rfl infoBlob ?_) | (refine wpList_store_row rfl 55 (.tmp 4) (.tmp 47) rfl w.heap.size #[.slice Ap p cp, .int .u64 (gen : Int), .int .i64 (S : Int)] rfl rfl 55 #[.slice none 0 0, .int .u64 0, .int .i64 0] HR5.out infoBlob rfl (by simp [Value.oneCell']) ?_))
        refine bodyPost_ret (results_row3 (g := w.heap.size) (te := 55) (cs := #[.slice Ap p cp, .int .u64 (gen : Int), .int .i64 (S : Int)]) (fr := (0, 0)) rfl _ _ _ rfl (Blk.row HR5.out _) Try.underlying55 rfl infoBlob) rfl ?_
        refine ⟨Ap, p, cp, rfl, own_lowerS (own_from HO5.out (fun k hk _ => setRow_other _ _ k _ (by omega))) (by omega), below_setRow HB5.out (Nat.le_refl _) _⟩
      · have hq : ((st.2 : Int) != 0) = true := by simpa using h0
        have HZ := Lib.hid h0
        clear h0
        go_wp2_with (refine wpList_store_row rfl 55 (.tmp 4) (.tmp 45) rfl w.heap.size #[.slice none 0 0, .int .u64 0, .int .i64 0] rfl rfl 55 #[.slice none 0 0, .int .u64 0, .int .i64 0] HR5.out infoBlob rfl (by simp [Value.oneCell']) ?_)
        refine bodyPost_ret (results_row3 (g := w.heap.size) (te := 55) (cs := #[.slice none 0 0, .int .u64 0, .int .i64 0]) (fr := (0, 0)) rfl _ _ _ rfl (Blk.row HR5.out _) Try.underlying55 rfl infoBlob) rfl ?_
        refine ⟨none, 0, 0, rfl, World.ownsRow_nil _ _ _ _, below_setRow HB5.out (Nat.le_refl _) _⟩
end Cib
