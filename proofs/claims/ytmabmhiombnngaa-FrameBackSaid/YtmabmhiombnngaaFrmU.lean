/- GetRecord. -/
import Derived.Test.YtmabmhiombnngaaFrmT
set_option linter.unusedVariables false
set_option linter.unusedSimpArgs false
set_option maxRecDepth 40000
namespace Cib
open Go Go.RowKit Go.Proofs
theorem infoRec : (Try.prog.info? 25).map (·.size) = some 2 := by kernel_rfl
theorem infoChg3 : (Try.prog.info? 57).map (fun i => (i.zero, i.size, i.bytes)) = some (some (.agg #[.string ⟨#[]⟩, .bool false, .slice none 0 0, .int .u64 0, .int .i64 0]), 5, 64) := by kernel_rfl
/-- Two results, the first a struct in memory. -/
theorem results_row2 {P : Program} {fn : Func} {p t : Tmp} {ty : TypeId} (h : fn.results = #[.cell p ty, .tmp t]) (tmps : Array Value) (w : World) (g : Nat) (te : TypeId) (cs : Array Value) (fr : Nat × Nat) (d : TypeDesc)
    (hp : tmps.getD p undef = .pointer (some ⟨g, 0, none⟩)) (hg : w.heap[g]? = some (.cells cs te fr))
    (hu : P.underlying ty = some d) (hd : (match d with | .struct _ | .array _ _ => true | _ => false) = true) (hi : (P.info? ty).map (·.size) = some cs.size) :
    (results fn tmps).run P w = .ok (.tuple #[.agg cs, tmps.getD t undef]) w := by
  have hp' : tmps[p]?.getD undef = .pointer (some ⟨g, 0, none⟩) := by simpa using hp
  simp [results, h, hp', asAddr, run_loadVar_row w g te ty cs fr d hg hu hd hi]
theorem _root_.List.length_flatten_eq5 {xs : List CgM} : (xs.map CgM.row).flatten.length = xs.length * 5 := by
  induction xs with
  | nil => rfl
  | cons x xs ih =>
    rw [List.map_cons, List.flatten_cons, List.length_append, ih, List.length_cons]
    show 5 + _ = _
    omega
/-- GetRecord under way. -/
structure GrI (w : World) (gx : Nat) (A : Option Addr) (n c : Nat) (st : Frm.St) (S : Nat) (Ac : Option Addr) (p kc : Nat) (xs : List CgM) (wr : World) : Prop where
  rdr : RdI (w.heap.size + 1) A n c st wr
  gt : w.heap.size + 1 < gx
  res : Blk wr w.heap.size 25 #[.int .u64 0, .slice none 0 0]
  x : Blk wr gx 25 #[.int .u64 (S : Int), .slice Ac p kc]
  own : wr.ownsRow (gx + 1) 57 5 (.slice Ac p kc) p (xs.map CgM.row).flatten
  pls : ∀ y ∈ xs, wr.ownsRow (gx + 1) 3 1 (.slice y.A y.n y.k) y.n (y.c.blob.places.map (Value.int .i64))
  bel : Below w.heap.size w wr
section
variable {w wr wr' : World} {gx : Nat} {A : Option Addr} {n c : Nat} {st st' : Frm.St} {S : Nat} {Ac : Option Addr} {p kc : Nat} {xs : List CgM}
theorem GrI.but (h : GrI w gx A n c st S Ac p kc xs wr) (hr : RdI (w.heap.size + 1) A n c st' wr') (hb : But (w.heap.size + 1) wr wr') : GrI w gx A n c st' S Ac p kc xs wr' :=
  have hg := h.gt
  ⟨hr, h.gt, h.res.but hb (by omega), h.x.but hb (by omega), own_but h.own hb (by omega), fun y hy => own_but (h.pls y hy) hb (by omega), hb.bel _ _ (by omega) h.bel⟩
theorem GrI.alloc (h : GrI w gx A n c st S Ac p kc xs wr) (o : Obj) : GrI w gx A n c st S Ac p kc xs (wr.alloc o) :=
  h.but (RdI.below h.rdr ((Below.refl _ _).alloc (Nat.le_refl _) _)) (But.below ((Below.refl _ _).alloc (Nat.le_refl _) _) (Blk.lt h.rdr))
theorem GrI.src {bs : List UInt8} (h : GrI w gx A n c st S Ac p kc xs wr) (hs : Src w w.heap.size A n c bs) : Src wr (w.heap.size + 1) A n c bs := ⟨(hs.rd.below h.bel).more (by omega), hs.len, hs.le, hs.cap, hs.lim⟩
theorem GrI.push (h : GrI w gx A n c st S Ac p kc xs wr) {y : CgM} {b : Nat} (hgb : gx < b) (hy : wr.ownsRow b 3 1 (.slice y.A y.n y.k) y.n (y.c.blob.places.map (Value.int .i64)))
    {w' : World} {A' : Option Addr} {c' : Nat} (ho : w'.ownsRow (gx + 1) 57 5 (.slice A' (p + 1) c') (p + 1) ((xs.map CgM.row).flatten ++ y.row)) (hg : wr.grownBy w' (Value.slice Ac p kc).ownBlock) (hb : Below (gx + 1) wr w') :
    GrI w gx A n c st S A' (p + 1) c' (xs ++ [y]) (w'.setCell ⟨gx, 1, none⟩ (.slice A' (p + 1) c')) :=
  have hq := h.gt
  have hS : Same [57] wr w' := Same.grown h.own hg (by simp)
  ⟨(Blk.below h.rdr hb (by omega)).far (by simp; omega) _, h.gt, (h.res.below hb (by omega)).far (by simp; omega) _, (h.x.below hb (by omega)).set 1 _,
    own_from (by rw [List.map_append, List.flatten_append]; simpa using ho) (fun k hk _ => heap_setCell_other w' _ k _ (by simp; omega)),
    fun z hz => by
      have hz' : wr.ownsRow (gx + 1) 3 1 (.slice z.A z.n z.k) z.n (z.c.blob.places.map (Value.int .i64)) := by
        rcases List.mem_append.1 hz with h1 | h1
        · exact h.pls z h1
        · rw [List.mem_singleton] at h1
          subst h1
          exact own_lowerS hy hgb
      exact own_from (own_same hz' hS (by decide)) (fun k hk _ => heap_setCell_other w' _ k _ (by simp; omega)),
    (h.bel.trans (hb.mono (by omega))).setCell (by simp; omega) _⟩
end
theorem chg_ok {bs : List UInt8} {behind : ByteArray} {st : Frm.St} (h : StOk bs st) : StOk bs (Frm.rdChg bs behind st).2 := by
  have h1 : StOk bs (Frm.rdKey bs behind st).2 := key_ok h
  have h2 : StOk bs (Frm.rdFlag bs (Frm.rdKey bs behind st).2).2 := flag_ok h1
  unfold Frm.rdChg
  simp only
  split
  · exact h2
  · split
    · exact h2
    · unfold StOk
      simp only
      split
      · rename_i hz
        obtain ⟨hs, _, _, _⟩ := Frm.rdBlob_inv hz
        have hl := hs.len
        simp only
        omega
      · exact h2
/-- What GetRecord answers. -/
def GotR (bs : List UInt8) (w : World) (e : Ending) (W' : World) : Prop :=
  ∃ (S : Nat) (Ac : Option Addr) (kc : Nat) (xs : List CgM), e = .returned (.tuple #[.agg #[.int .u64 (S : Int), .slice Ac xs.length kc], .int .i64 ((Frm.getR bs).2 : Int)]) ∧ Frm.getR bs = (⟨S, xs.map (·.c)⟩, (Frm.getR bs).2) ∧ Rd W' W'.heap.size Ac (xs.map CgM.row).flatten ∧ (∀ x ∈ xs, x.At W' W'.heap.size) ∧ Below w.heap.size w W'
set_option maxHeartbeats 4000000 in
theorem frmGet (A : Option Addr) (n c : Nat) (bs : List UInt8) (w : World) (hs : Src w w.heap.size A n c bs) :
    Calls Try.prog 13 #[.slice A n c] w (GotR bs w) := by
  have HS := Lib.hid hs
  have HRE := Lib.hid (Frm.getR_ok (bs := bs))
  unfold GotR
  obtain ⟨OUT, hOUT⟩ : ∃ OUT, Frm.getR bs = OUT := ⟨_, rfl⟩
  rw [hOUT] at HRE ⊢
  unfold Frm.getR at hOUT
  simp only at hOUT
  have HB1 := Lib.hid (((Below.refl w.heap.size w).alloc (Nat.le_refl _) (.cells #[.int .u64 0, .slice none 0 0] 25)).alloc (by simp) (.cells #[.slice A n c, .int .i64 0, .int .i64 0] 68))
  have HR1 := Lib.hid ((Blk.new w 25 #[.int .u64 0, .slice none 0 0]).alloc (.cells #[.slice A n c, .int .i64 0, .int .i64 0] 68))
  have HX1 : Hid (RdI (w.heap.size + 1) A n c (0, 0) ((w.alloc (.cells #[.int .u64 0, .slice none 0 0] 25)).alloc (.cells #[.slice A n c, .int .i64 0, .int .i64 0] 68))) := Lib.hid (by
    have := Blk.new (w.alloc (.cells #[.int .u64 0, .slice none 0 0] 25)) 68 #[.slice A n c, .int .i64 0, .int .i64 0]
    simpa [RdI] using this)
  have HSRC := Lib.hid fun (W : World) (hb : Below w.heap.size w W) => (⟨(hs.rd.below hb).more (Nat.le_succ _), hs.len, hs.le, hs.cap, hs.lim⟩ : Src W (w.heap.size + 1) A n c bs)
  have hok0 : StOk bs (0, 0) := ⟨by simp, by simp⟩
  have hok1 := num_ok hok0
  have hok2 := num_ok hok1
  have HN1 := Lib.hid (frmNumber (w.heap.size + 1) A n c bs (0, 0) _ (HSRC.out _ HB1.out) HX1.out hok0)
  have HN2 := Lib.hid fun W h1 h2 => frmNumber (w.heap.size + 1) A n c bs (Frm.rdNum bs (0, 0)).2 W h1 h2 hok1
  have hlt := @num_lt bs (Frm.rdNum bs (0, 0)).2 (by rw [hs.len]; exact hs.lim)
  generalize Frm.rdNum bs (0, 0) = R1 at *
  obtain ⟨S, s1⟩ := R1
  simp only at HN1 HN2 hok1 hok2 hlt hOUT
  generalize Frm.rdNum bs s1 = R2 at *
  obtain ⟨N, s2⟩ := R2
  simp only at HN2 hok2 hlt hOUT
  have HFA := Lib.hid fun W h => frmFail (w.heap.size + 1) A n c s2 (decide (16 < N)) 3 W h
  have hok3 : StOk bs (Frm.fail (decide (16 < N)) 3 s2) := by unfold StOk; rw [fail_st]; exact hok2
  have hN16 : (Frm.fail (decide (16 < N)) 3 s2).2 = 0 → N ≤ 16 := by
    intro h
    obtain ⟨_, h2, _⟩ := Frm.fail_inv (by decide) h
    simpa using h2
  generalize Frm.fail (decide (16 < N)) 3 s2 = s3 at *
  have hd1 : decide ((16 : Int) < (N : Int)) = decide (16 < N) := decide_eq_decide.2 (by omega)
  obtain ⟨b1, hb1⟩ : ∃ b1, decide (16 < N) = b1 := ⟨_, rfl⟩
  rw [hb1] at hd1 HFA
  have HOUT := Lib.hid hOUT
  have HOK3 := Lib.hid hok3
  have HN16 := Lib.hid hN16
  clear hs hOUT hok0 hok1 hok2 hok3 hN16 hb1
  go_enter Try.func13, Try.ntmps13
  go_wp2_with fail
  refine HN1.out.mono ?_
  rintro e w2 ⟨rfl, hb2, hx2⟩
  have HB2 := Lib.hid (hb2.bel _ _ (by omega) HB1.out)
  have HI2 : Hid (GrI w w2.heap.size A n c s1 S none 0 0 [] (w2.alloc (.cells #[.int .u64 (S : Int), .slice none 0 0] 25))) := Lib.hid (by
    have hz := hb2.size
    simp at hz
    exact ⟨RdI.below hx2 ((Below.refl _ _).alloc (Nat.le_refl _) _), by omega, (HR1.out.but hb2 (by omega)).alloc _, Blk.new _ _ _, World.ownsRow_nil _ _ _ _, fun y hy => (by cases hy), HB2.out.alloc (by omega) _⟩)
  clear hb2 hx2 HB1 HR1 HX1 HN1 HB2
  go_wp2_with fail
  refine (HN2.out _ (HI2.out.src HS.out) HI2.out.rdr).mono ?_
  rintro e w3 ⟨rfl, hb3, hx3⟩
  have HI3 := Lib.hid (HI2.out.but hx3 hb3)
  clear hb3 hx3 HI2 HN2
  go_wp2_with fail
  refine (HFA.out _ HI3.out.rdr).mono ?_
  rintro e w4 ⟨rfl, hb4, hx4⟩
  have HI4 := Lib.hid (HI3.out.but hx4 hb4)
  clear hb4 hx4 HI3 HFA
  go_wp2_with fail
  go_loopw [7, 8] (fun k i wr => ∃ (p : Nat) (key : ByteArray) (Ac : Option Addr) (kc : Nat) (st : Frm.St) (xs : List CgM), k = .string key ∧ i = .int .u64 p ∧ p ≤ N ∧ (N ≤ 16 ∨ (st.2 ≠ 0 ∧ p = 0)) ∧ Hid (GrI w w2.heap.size A n c st S Ac p kc xs wr) ∧ Hid (StOk bs st) ∧ Hid (Frm.rdChs bs N Ord.z s3 = (xs.map (·.c) ++ (Frm.rdChs bs (N - p) key st).1, (Frm.rdChs bs (N - p) key st).2))) (fun _ i _ => N - (intOf i).toNat)
  case atStart =>
    refine ⟨0, Ord.z, none, 0, s3, [], rfl, rfl, Nat.zero_le _, ?_, HI4, HOK3, Lib.hid rfl⟩
    by_cases h : s3.2 = 0
    · exact .inl (HN16.out h)
    · exact .inr ⟨h, rfl⟩
  case round =>
    clear HI4 HOK3 HN16
    obtain ⟨p, key, Ac, kc, st, xs, rfl, rfl, hp, h16, HI, HOK, HE⟩ := hrel
    have HRR := Lib.hid HI.out.rdr
    have cc2 := Blk.cell HRR.out 2
    simp only [List.getElem?_toArray, List.getElem?_cons_zero, List.getElem?_cons_succ] at cc2
    by_cases hlt2 : p < N
    · by_cases h0 : st.2 = 0
      · have hq0 : ((st.2 : Int) == 0) = true := by rw [h0]; rfl
        have hN : N ≤ 16 := by omega
        have HE2 : Hid (Frm.rdChs bs N Ord.z s3 = ((xs.map (·.c) ++ [(Frm.rdChg bs key st).1]) ++ (Frm.rdChs bs (N - (p + 1)) (Frm.rdChg bs key st).1.key (Frm.rdChg bs key st).2).1, (Frm.rdChs bs (N - (p + 1)) (Frm.rdChg bs key st).1.key (Frm.rdChg bs key st).2).2)) := Lib.hid (by
          rw [HE.out, show N - p = (N - (p + 1)) + 1 from by omega, Frm.rdChs, if_neg (by rw [h0]; simp)]
          simp)
        have HCH := Lib.hid (frmChg (w.heap.size + 1) A n c bs key st wr (HI.out.src HS.out) HI.out.rdr HOK.out)
        have HOK2 : Hid (StOk bs (Frm.rdChg bs key st).2) := Lib.hid (chg_ok HOK.out)
        generalize Frm.rdChg bs key st = V at *
        obtain ⟨⟨key2, dead, ⟨pl, gen, siz⟩⟩, st2⟩ := V
        simp only at HCH HOK2 HE2
        clear HE h16 h0
        go_wp2_with fail
        refine HCH.out.mono ?_
        rintro e w5 ⟨Ap, pn, cp, rfl, ho5, hb5, hx5⟩
        have HI5 := Lib.hid (((HI.out.but hx5 hb5).alloc (.cells #[.string key2, .bool dead, .slice Ap pn cp, .int .u64 (gen : Int), .int .i64 siz] 57)))
        have HO5 := Lib.hid (World.ownsRow.alloc ho5 (.cells #[.string key2, .bool dead, .slice Ap pn cp, .int .u64 (gen : Int), .int .i64 siz] 57))
        have HC5 := Lib.hid (Blk.new w5 57 #[.string key2, .bool dead, .slice Ap pn cp, .int .u64 (gen : Int), .int .i64 siz])
        have hgx := HI.out.x.lt
        have hg9 := Nat.lt_of_lt_of_le hgx hb5.size
        have hg9w := hb5.size
        have HLT := Lib.hid fun k (h : (Value.slice Ac p kc).ownBlock = some k) => (HI.out.own.lt k h).2
        clear ho5 hb5 hx5 HCH HI HRR cc2
        go_upto_region 10 with fail
        generalize w5.alloc _ = w6 at *
        generalize w5.heap.size = g9 at *
        have c1 := HI5.out.x.cell 1
        simp only [List.getElem?_toArray, List.getElem?_cons_zero, List.getElem?_cons_succ] at c1
        obtain ⟨d0, d1, d2, d3, d4⟩ : _ ∧ _ ∧ _ ∧ _ ∧ _ := ⟨HC5.out.cell 0, HC5.out.cell 1, HC5.out.cell 2, HC5.out.cell 3, HC5.out.cell 4⟩
        simp only [List.getElem?_toArray, List.getElem?_cons_zero, List.getElem?_cons_succ] at d0 d1 d2 d3 d4
        have hl9 := HC5.out.lt
        obtain ⟨i0, hi, hz0, hz1, hz2⟩ := info_parts infoChg3
        have HI6 := Lib.hid (HI5.out.alloc (.cells #[.string key2, .bool dead, .slice Ap pn cp, .int .u64 (gen : Int), .int .i64 siz] 57))
        have HO6 := Lib.hid (World.ownsRow.alloc HO5.out (.cells #[.string key2, .bool dead, .slice Ap pn cp, .int .u64 (gen : Int), .int .i64 siz] 57))
        have HC6 := Lib.hid (HC5.out.alloc (.cells #[.string key2, .bool dead, .slice Ap pn cp, .int .u64 (gen : Int), .int .i64 siz] 57))
        have HX6 := Lib.hid HI6.out.x
        have hx6 := HX6.out.lt
        clear HI5 HO5 HC5
        go_wp2_with (at_builtin; refine Hid.out ?_)
        refine Lib.hid ?_
        refine wpList_appS rfl (.tmp 38) (.tmp 40) 23 rfl (w2.heap.size + 1) 5 57 i0 _ 64 Try.underlying23 hi hz0 hz1 hz2 rfl (by decide) Ac p kc (xs.map CgM.row).flatten rfl HI6.out.own _ ⟨w6.heap.size, 0, none⟩ 1 1 [.string key2, .bool dead, .slice Ap pn cp, .int .u64 (gen : Int), .int .i64 siz] rfl rfl (Rd.new w6 _ _ _ rfl) (fun u hu => by simp at hu; rcases hu with rfl | rfl | rfl | rfl | rfl <;> rfl) (by unfold maxLen; omega) (by omega) hx6 ?_
        intro A7 c7 w7 ho7 hg7 hb7
        have HI7 := Lib.hid (GrI.push HI6.out (y := ⟨⟨key2, dead, ⟨pl, gen, siz⟩⟩, Ap, pn, cp⟩) hgx HO6.out ho7 hg7 hb7)
        have HX7 := Lib.hid (HX6.out.below hb7 (Nat.lt_succ_self _))
        have hg9l := HC6.out.lt
        have HC7 : Hid (Blk w7 g9 57 #[.string key2, .bool dead, .slice Ap pn cp, .int .u64 (gen : Int), .int .i64 siz]) := Lib.hid ((hg7.block g9 hg9l (fun e => by have := HLT.out g9 e.symm; omega)).trans HC6.out)
        have HC8 := Lib.hid (HC7.out.far (p := ⟨w2.heap.size, 1, none⟩) (by simp; omega) (.slice A7 (p + 1) c7))
        have e0 := HC8.out.cell 0
        simp only [List.getElem?_toArray, List.getElem?_cons_zero, List.getElem?_cons_succ] at e0
        have f7 := HX7.out.frozen 1
        have c71 := HX7.out.cell 1
        simp only [List.getElem?_toArray, List.getElem?_cons_zero, List.getElem?_cons_succ] at c71
        clear hb7 ho7 hg7
        go_wp2
        go_roundw
        case rel => exact ⟨p + 1, key2, A7, c7, st2, _, rfl, by go_num, hlt2, .inl hN, HI7, HOK2, by simpa using HE2⟩
        case measure => simp [intOf]; omega
      · have hq0 : ((st.2 : Int) == 0) = false := by simpa using h0
        have hfin : Frm.rdChs bs N Ord.z s3 = (xs.map (·.c), st) := by
          rw [HE.out, show N - p = (N - (p + 1)) + 1 from by omega, Frm.rdChs, if_pos h0]
          simp
        clear HE h0 h16
        have HC5 := Lib.hid (HI.out.rdr)
        have c1 := Blk.cell HC5.out 1
        simp only [List.getElem?_toArray, List.getElem?_cons_zero, List.getElem?_cons_succ] at c1
        have HFB := Lib.hid (frmFail (w.heap.size + 1) A n c st (decide (st.1 ≠ (bs.length : Int))) 3 wr HC5.out)
        have hd2 : (st.1 != (n : Int)) = decide (st.1 ≠ (bs.length : Int)) := by
          rw [HS.out.len, Bool.eq_iff_iff]
          simp
        obtain ⟨b2, hb2⟩ : ∃ b2, decide (st.1 ≠ (bs.length : Int)) = b2 := ⟨_, rfl⟩
        have hO := HOUT.out
        rw [hfin] at hO
        simp only at hO
        rw [hb2] at hd2 HFB hO
        generalize Frm.fail b2 3 st = st4 at *
        have HO := Lib.hid hO
        clear HOUT hfin hb2 hO HC5
        go_wp2_with fail
        refine HFB.out.mono ?_
        rintro e w5 ⟨rfl, hb5, hx5⟩
        have HI5 := Lib.hid (HI.out.but hx5 hb5)
        have HR5 := Lib.hid HI5.out.res
        have HX5 := Lib.hid HI5.out.x
        have HD5 : Hid (Blk w5.drew (w.heap.size + 1) 68 #[.slice A n c, .int .i64 st4.1, .int .i64 (st4.2 : Int)]) := Lib.hid hx5
        have c2 := Blk.cell hx5 2
        simp only [List.getElem?_toArray, List.getElem?_cons_zero, List.getElem?_cons_succ] at c2
        have hlt5 := Blk.lt hx5
        clear hb5 hx5 HI HFB c1
        by_cases h4 : st4.2 = 0
        · have hq4 : ((st4.2 : Int) != 0) = false := by rw [h4]; rfl
          obtain rfl : OUT = (⟨S, xs.map (·.c)⟩, 0) := by rw [← HO.out, if_neg (by rw [h4]; simp)]
          have HRE2 := Lib.hid (HRE.out rfl)
          clear h4 HO HRE
          go_wp2_with (first | (refine wpList_load_row rfl 25 (.tmp 5) rfl w2.heap.size rfl 25 _ (0, 0) _ HX5.out Try.underlying25 rfl infoRec ?_) | (refine wpList_store_row rfl 25 (.tmp 2) (.tmp 64) rfl w.heap.size #[.int .u64 (S : Int), .slice Ac p kc] rfl rfl 25 #[.int .u64 0, .slice none 0 0] HR5.out infoRec rfl (by simp [Value.oneCell']) ?_))
          refine bodyPost_ret (results_row2 (g := w.heap.size) (te := 25) (cs := #[.int .u64 (S : Int), .slice Ac p kc]) (fr := (0, 0)) rfl _ _ _ rfl (Blk.row HR5.out _) Try.underlying25 rfl infoRec) rfl ?_
          have hgt := HI5.out.gt
          have hSR : ∀ k, w2.heap.size + 1 ≤ k → (w5.setRow w.heap.size #[.int .u64 (S : Int), .slice Ac p kc]).heap[k]? = w5.heap[k]? := fun k hk => setRow_other _ _ k _ (by omega)
          have hown := own_from HI5.out.own (fun k hk _ => hSR k hk)
          have hxl : xs.length = p := by
            have := HI5.out.own.1
            rw [List.length_flatten_eq5] at this
            omega
          refine ⟨S, Ac, kc, xs, by rw [hxl]; rfl, by first | rfl | exact ⟨rfl, rfl⟩, Rd.of_ownS hown, fun y hy => ?_, below_setRow HI5.out.bel (Nat.le_refl _) _⟩
          obtain ⟨r1, r2, r3, r4⟩ := HRE2.out
          have hy2 : y.c ∈ xs.map (·.c) := List.mem_map.2 ⟨y, hy, rfl⟩
          have hfit := right_fits (key := Ord.z) (by unfold Frm.right at r1; rw [Bool.and_eq_true] at r1; exact r1.1) y.c hy2
          unfold Frm.fits at hfit
          simp only [Bool.and_eq_true, decide_eq_true_iff, Bool.not_eq_true'] at hfit
          obtain ⟨⟨⟨⟨⟨h1, h2⟩, h3⟩, h4⟩, h5⟩, h6⟩ := hfit
          unfold Frm.where_ at h6
          rw [Bool.and_eq_true, decide_eq_true_iff, decide_eq_true_iff] at h6
          have hyo := own_from (HI5.out.pls y hy) (fun k hk _ => hSR k hk)
          have hyl : y.c.blob.places.length = y.n := by simpa using own_len hyo
          exact ⟨Rd.of_own hyo, hyl, by omega, r4 _ hy2, by omega, by omega⟩
        · have hq4 : ((st4.2 : Int) != 0) = true := by simpa using h4
          obtain rfl : OUT = (⟨0, []⟩, st4.2) := by rw [← HO.out, if_pos h4]
          clear h4 HO HRE
          go_wp2_with fail
          refine wp_region_held_drew (S := (fun wQq => Blk wQq (w.heap.size + 1) 68 #[.slice A n c, .int .i64 st4.1, .int .i64 (st4.2 : Int)])) (by kernel_rfl) (HD5.out) (fun _ => ?_)
          refine wpAnyH_take (i := 0) (v := ?_) rfl (by kernel_rfl) (by kernel_rfl) (by kernel_rfl) (fun _ _ _ h => h) (Or.inl ⟨by rfl, ?_⟩) (HD5.out) ?_
          rotate_left
          · intro wS hSw
            go_simp
            try with_reducible rfl
          try simp only [List.getElem_toArray, List.getElem_cons_zero, List.getElem_cons_succ, Act.put, List.setIfInBounds_toArray, List.set_cons_zero, List.set_cons_succ]
          refine wpAnyH_take (i := 1) (v := ?_) rfl (by kernel_rfl) (by kernel_rfl) (by kernel_rfl) (fun _ _ _ h => h) (Or.inl ⟨by rfl, ?_⟩) (HD5.out) ?_
          rotate_left
          · intro wS hSw
            go_simp
            try with_reducible rfl
          try simp only [List.getElem_toArray, List.getElem_cons_zero, List.getElem_cons_succ, Act.put, List.setIfInBounds_toArray, List.set_cons_zero, List.set_cons_succ]
          refine wpAnyH_take (i := 2) (v := ?_) rfl (by kernel_rfl) (by kernel_rfl) (by kernel_rfl) (fun _ _ _ h => h) (Or.inl ⟨by rfl, ?_⟩) (HD5.out) ?_
          rotate_left
          · intro wS hSw
            go_simp
            try with_reducible rfl
          try simp only [List.getElem_toArray, List.getElem_cons_zero, List.getElem_cons_succ, Act.put, List.setIfInBounds_toArray, List.set_cons_zero, List.set_cons_succ]
          refine wpAnyH_take (i := 3) (v := ?_) rfl (by kernel_rfl) (by kernel_rfl) (by kernel_rfl) (fun _ _ _ h => h) (Or.inl ⟨by rfl, ?_⟩) (HD5.out) ?_
          rotate_left
          · intro wS hSw
            go_simp
            try with_reducible rfl
          try simp only [List.getElem_toArray, List.getElem_cons_zero, List.getElem_cons_succ, Act.put, List.setIfInBounds_toArray, List.set_cons_zero, List.set_cons_succ]
          refine wpAnyH_take (i := 4) (v := ?_) rfl (by kernel_rfl) (by kernel_rfl) (by kernel_rfl) (fun _ _ _ h => h) (Or.inl ⟨by rfl, ?_⟩) (HD5.out) ?_
          rotate_left
          · intro wS hSw
            have hcv := hSw.cell 2
            go_simp
            try with_reducible rfl
          try simp only [List.getElem_toArray, List.getElem_cons_zero, List.getElem_cons_succ, Act.put, List.setIfInBounds_toArray, List.set_cons_zero, List.set_cons_succ]
          refine wpAnyH_ready (rs := [5]) (by kernel_rfl) (by simp) ?_
          refine AllReadyH.cons rfl (fun K hK => ?_) AllReadyH.nil
          refine wp_store_row 25 (.tmp 2) (.tmp 59) rfl w.heap.size #[.int .u64 0, .slice none 0 0] rfl rfl 25 #[.int .u64 0, .slice none 0 0] HR5.out infoRec rfl (by simp [Value.oneCell']) ?_
          refine hK.out _ _ (Blk.rowFar HD5.out (by omega) _) (fun _ => ?_)
          clear hK K
          try simp only [List.getElem_toArray, List.getElem_cons_zero, List.getElem_cons_succ, Act.put, List.setIfInBounds_toArray, List.set_cons_zero, List.set_cons_succ]
          refine wpAnyH_take (i := 6) (v := ?_) rfl (by kernel_rfl) (by kernel_rfl) (by kernel_rfl) (fun _ _ _ h => h) (Or.inl ⟨by rfl, ?_⟩) (Blk.rowFar HD5.out (by omega) _) ?_
          rotate_left
          · intro wS hSw
            go_simp
            try with_reducible rfl
          try simp only [List.getElem_toArray, List.getElem_cons_zero, List.getElem_cons_succ, Act.put, List.setIfInBounds_toArray, List.set_cons_zero, List.set_cons_succ]
          refine wpAnyH_done (by kernel_rfl) ?_ _
          go_wp2
          refine bodyPost_ret (results_row2 (g := w.heap.size) (te := 25) (cs := #[.int .u64 0, .slice none 0 0]) (fr := (0, 0)) rfl _ _ _ rfl (Blk.row HR5.out _) Try.underlying25 rfl infoRec) rfl ?_
          exact ⟨0, none, 0, [], rfl, by first | rfl | exact ⟨rfl, rfl⟩, Rd.nil _ _ _, fun y hy => (by cases hy), below_setRow (below_drewN HI5.out.bel 1) (Nat.le_refl _) _⟩
    · obtain rfl : p = N := by omega
      have hfin : Frm.rdChs bs p Ord.z s3 = (xs.map (·.c), st) := by
        rw [HE.out, Nat.sub_self, Frm.rdChs]
        simp
      clear HE h16 hlt2
      have HC5 := Lib.hid (HI.out.rdr)
      have c1 := Blk.cell HC5.out 1
      simp only [List.getElem?_toArray, List.getElem?_cons_zero, List.getElem?_cons_succ] at c1
      have HFB := Lib.hid (frmFail (w.heap.size + 1) A n c st (decide (st.1 ≠ (bs.length : Int))) 3 wr HC5.out)
      have hd2 : (st.1 != (n : Int)) = decide (st.1 ≠ (bs.length : Int)) := by
        rw [HS.out.len, Bool.eq_iff_iff]
        simp
      obtain ⟨b2, hb2⟩ : ∃ b2, decide (st.1 ≠ (bs.length : Int)) = b2 := ⟨_, rfl⟩
      have hO := HOUT.out
      rw [hfin] at hO
      simp only at hO
      rw [hb2] at hd2 HFB hO
      generalize Frm.fail b2 3 st = st4 at *
      have HO := Lib.hid hO
      clear HOUT hfin hb2 hO HC5
      go_wp2_with fail
      refine HFB.out.mono ?_
      rintro e w5 ⟨rfl, hb5, hx5⟩
      have HI5 := Lib.hid (HI.out.but hx5 hb5)
      have HR5 := Lib.hid HI5.out.res
      have HX5 := Lib.hid HI5.out.x
      have HD5 : Hid (Blk w5.drew (w.heap.size + 1) 68 #[.slice A n c, .int .i64 st4.1, .int .i64 (st4.2 : Int)]) := Lib.hid hx5
      have c2 := Blk.cell hx5 2
      simp only [List.getElem?_toArray, List.getElem?_cons_zero, List.getElem?_cons_succ] at c2
      have hlt5 := Blk.lt hx5
      clear hb5 hx5 HI HFB c1
      by_cases h4 : st4.2 = 0
      · have hq4 : ((st4.2 : Int) != 0) = false := by rw [h4]; rfl
        obtain rfl : OUT = (⟨S, xs.map (·.c)⟩, 0) := by rw [← HO.out, if_neg (by rw [h4]; simp)]
        have HRE2 := Lib.hid (HRE.out rfl)
        clear h4 HO HRE
        go_wp2_with (first | (refine wpList_load_row rfl 25 (.tmp 5) rfl w2.heap.size rfl 25 _ (0, 0) _ HX5.out Try.underlying25 rfl infoRec ?_) | (refine wpList_store_row rfl 25 (.tmp 2) (.tmp 64) rfl w.heap.size #[.int .u64 (S : Int), .slice Ac p kc] rfl rfl 25 #[.int .u64 0, .slice none 0 0] HR5.out infoRec rfl (by simp [Value.oneCell']) ?_))
        refine bodyPost_ret (results_row2 (g := w.heap.size) (te := 25) (cs := #[.int .u64 (S : Int), .slice Ac p kc]) (fr := (0, 0)) rfl _ _ _ rfl (Blk.row HR5.out _) Try.underlying25 rfl infoRec) rfl ?_
        have hgt := HI5.out.gt
        have hSR : ∀ k, w2.heap.size + 1 ≤ k → (w5.setRow w.heap.size #[.int .u64 (S : Int), .slice Ac p kc]).heap[k]? = w5.heap[k]? := fun k hk => setRow_other _ _ k _ (by omega)
        have hown := own_from HI5.out.own (fun k hk _ => hSR k hk)
        have hxl : xs.length = p := by
          have := HI5.out.own.1
          rw [List.length_flatten_eq5] at this
          omega
        refine ⟨S, Ac, kc, xs, by rw [hxl]; rfl, by first | rfl | exact ⟨rfl, rfl⟩, Rd.of_ownS hown, fun y hy => ?_, below_setRow HI5.out.bel (Nat.le_refl _) _⟩
        obtain ⟨r1, r2, r3, r4⟩ := HRE2.out
        have hy2 : y.c ∈ xs.map (·.c) := List.mem_map.2 ⟨y, hy, rfl⟩
        have hfit := right_fits (key := Ord.z) (by unfold Frm.right at r1; rw [Bool.and_eq_true] at r1; exact r1.1) y.c hy2
        unfold Frm.fits at hfit
        simp only [Bool.and_eq_true, decide_eq_true_iff, Bool.not_eq_true'] at hfit
        obtain ⟨⟨⟨⟨⟨h1, h2⟩, h3⟩, h4⟩, h5⟩, h6⟩ := hfit
        unfold Frm.where_ at h6
        rw [Bool.and_eq_true, decide_eq_true_iff, decide_eq_true_iff] at h6
        have hyo := own_from (HI5.out.pls y hy) (fun k hk _ => hSR k hk)
        have hyl : y.c.blob.places.length = y.n := by simpa using own_len hyo
        exact ⟨Rd.of_own hyo, hyl, by omega, r4 _ hy2, by omega, by omega⟩
      · have hq4 : ((st4.2 : Int) != 0) = true := by simpa using h4
        obtain rfl : OUT = (⟨0, []⟩, st4.2) := by rw [← HO.out, if_pos h4]
        clear h4 HO HRE
        go_wp2_with fail
        refine wp_region_held_drew (S := (fun wQq => Blk wQq (w.heap.size + 1) 68 #[.slice A n c, .int .i64 st4.1, .int .i64 (st4.2 : Int)])) (by kernel_rfl) (HD5.out) (fun _ => ?_)
        refine wpAnyH_take (i := 0) (v := ?_) rfl (by kernel_rfl) (by kernel_rfl) (by kernel_rfl) (fun _ _ _ h => h) (Or.inl ⟨by rfl, ?_⟩) (HD5.out) ?_
        rotate_left
        · intro wS hSw
          go_simp
          try with_reducible rfl
        try simp only [List.getElem_toArray, List.getElem_cons_zero, List.getElem_cons_succ, Act.put, List.setIfInBounds_toArray, List.set_cons_zero, List.set_cons_succ]
        refine wpAnyH_take (i := 1) (v := ?_) rfl (by kernel_rfl) (by kernel_rfl) (by kernel_rfl) (fun _ _ _ h => h) (Or.inl ⟨by rfl, ?_⟩) (HD5.out) ?_
        rotate_left
        · intro wS hSw
          go_simp
          try with_reducible rfl
        try simp only [List.getElem_toArray, List.getElem_cons_zero, List.getElem_cons_succ, Act.put, List.setIfInBounds_toArray, List.set_cons_zero, List.set_cons_succ]
        refine wpAnyH_take (i := 2) (v := ?_) rfl (by kernel_rfl) (by kernel_rfl) (by kernel_rfl) (fun _ _ _ h => h) (Or.inl ⟨by rfl, ?_⟩) (HD5.out) ?_
        rotate_left
        · intro wS hSw
          go_simp
          try with_reducible rfl
        try simp only [List.getElem_toArray, List.getElem_cons_zero, List.getElem_cons_succ, Act.put, List.setIfInBounds_toArray, List.set_cons_zero, List.set_cons_succ]
        refine wpAnyH_take (i := 3) (v := ?_) rfl (by kernel_rfl) (by kernel_rfl) (by kernel_rfl) (fun _ _ _ h => h) (Or.inl ⟨by rfl, ?_⟩) (HD5.out) ?_
        rotate_left
        · intro wS hSw
          go_simp
          try with_reducible rfl
        try simp only [List.getElem_toArray, List.getElem_cons_zero, List.getElem_cons_succ, Act.put, List.setIfInBounds_toArray, List.set_cons_zero, List.set_cons_succ]
        refine wpAnyH_take (i := 4) (v := ?_) rfl (by kernel_rfl) (by kernel_rfl) (by kernel_rfl) (fun _ _ _ h => h) (Or.inl ⟨by rfl, ?_⟩) (HD5.out) ?_
        rotate_left
        · intro wS hSw
          have hcv := hSw.cell 2
          go_simp
          try with_reducible rfl
        try simp only [List.getElem_toArray, List.getElem_cons_zero, List.getElem_cons_succ, Act.put, List.setIfInBounds_toArray, List.set_cons_zero, List.set_cons_succ]
        refine wpAnyH_ready (rs := [5]) (by kernel_rfl) (by simp) ?_
        refine AllReadyH.cons rfl (fun K hK => ?_) AllReadyH.nil
        refine wp_store_row 25 (.tmp 2) (.tmp 59) rfl w.heap.size #[.int .u64 0, .slice none 0 0] rfl rfl 25 #[.int .u64 0, .slice none 0 0] HR5.out infoRec rfl (by simp [Value.oneCell']) ?_
        refine hK.out _ _ (Blk.rowFar HD5.out (by omega) _) (fun _ => ?_)
        clear hK K
        try simp only [List.getElem_toArray, List.getElem_cons_zero, List.getElem_cons_succ, Act.put, List.setIfInBounds_toArray, List.set_cons_zero, List.set_cons_succ]
        refine wpAnyH_take (i := 6) (v := ?_) rfl (by kernel_rfl) (by kernel_rfl) (by kernel_rfl) (fun _ _ _ h => h) (Or.inl ⟨by rfl, ?_⟩) (Blk.rowFar HD5.out (by omega) _) ?_
        rotate_left
        · intro wS hSw
          go_simp
          try with_reducible rfl
        try simp only [List.getElem_toArray, List.getElem_cons_zero, List.getElem_cons_succ, Act.put, List.setIfInBounds_toArray, List.set_cons_zero, List.set_cons_succ]
        refine wpAnyH_done (by kernel_rfl) ?_ _
        go_wp2
        refine bodyPost_ret (results_row2 (g := w.heap.size) (te := 25) (cs := #[.int .u64 0, .slice none 0 0]) (fr := (0, 0)) rfl _ _ _ rfl (Blk.row HR5.out _) Try.underlying25 rfl infoRec) rfl ?_
        exact ⟨0, none, 0, [], rfl, by first | rfl | exact ⟨rfl, rfl⟩, Rd.nil _ _ _, fun y hy => (by cases hy), below_setRow (below_drewN HI5.out.bel 1) (Nat.le_refl _) _⟩
end Cib
