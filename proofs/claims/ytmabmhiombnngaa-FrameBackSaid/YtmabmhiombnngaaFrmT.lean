/- The reader of records: a change. -/
import Derived.Test.YtmabmhiombnngaaFrmS
set_option linter.unusedVariables false
set_option linter.unusedSimpArgs false
set_option maxRecDepth 40000
namespace Cib
open Go Go.RowKit Go.Proofs
theorem infoChg : (Try.prog.info? 57).map (·.size) = some 5 := by kernel_rfl
set_option maxHeartbeats 1000000 in
theorem frmChg1 (gc : Nat) (k d x0 x1 x2 : Value) (g : Nat) (A : Option Addr) (n c : Nat) (bs : List UInt8) (a : Int) (W : World) (hs : Src W g A n c bs) (hgW : g ≤ W.heap.size) (ha : 0 ≤ a ∧ a ≤ bs.length) (hv : Blk W gc 57 #[k, d, x0, x1, x2]) :
    Calls Try.prog 44 #[.slice A n c, .int .i64 a, .pointer (some ⟨gc, 0, none⟩)] W fun e W' => e = .returned (.tuple #[.int .i64 (Frm.rdBlob bs a).2.1, .int .i64 ((Frm.rdBlob bs a).2.2 : Int)]) ∧ But gc W W' ∧ ∃ Ap p cp, W'.ownsRow W.heap.size 3 1 (.slice Ap p cp) p ((Frm.rdBlob bs a).1.places.map (Value.int .i64)) ∧ Blk W' gc 57 #[k, d, .slice Ap p cp, .int .u64 ((Frm.rdBlob bs a).1.gen : Int), .int .i64 (Frm.rdBlob bs a).1.size] := by
  have HG := Lib.hid (blobGet A n c bs a W (hs.rd.more hgW) hs.len hs.le hs.cap hs.lim ⟨by omega, by have := hs.len; have := hs.lim; omega⟩)
  generalize Frm.rdBlob bs a = V at *
  obtain ⟨⟨pl, gen, siz⟩, p, q⟩ := V
  simp only at HG ⊢
  have HV := Lib.hid hv
  clear hs hgW ha hv
  go_enter Try.func44, Try.ntmps44
  go_wp2_with fail
  refine HG.out.mono ?_
  rintro e w2 ⟨Ap, pn, cp, rfl, ho2, hb2⟩
  have hlt := HV.out.lt
  have HV2 := Lib.hid ((HV.out.below hb2 hlt).alloc (.cells #[.slice Ap pn cp, .int .u64 (gen : Int), .int .i64 siz] 55))
  have HN2 := Lib.hid (Blk.new w2 55 #[.slice Ap pn cp, .int .u64 (gen : Int), .int .i64 siz])
  have HO2 := Lib.hid (World.ownsRow.alloc ho2 (.cells #[.slice Ap pn cp, .int .u64 (gen : Int), .int .i64 siz] 55))
  have HB2 := Lib.hid (But.below ((hb2.alloc hb2.size (.cells #[.slice Ap pn cp, .int .u64 (gen : Int), .int .i64 siz] 55))) hlt)
  have hf2 := HV2.out.frozen 2
  have hf3 := HV2.out.frozen 3
  have hf4 := HV2.out.frozen 4
  have hc2 := HV2.out.cell 2
  have hc3 := HV2.out.cell 3
  have hc4 := HV2.out.cell 4
  simp only [List.getElem?_toArray, List.getElem?_cons_zero, List.getElem?_cons_succ] at hc2 hc3 hc4
  clear ho2 hb2
  go_wp2
  go_ret2
  exact ⟨rfl, ((HB2.out.trans (But.set gc 2 _ _)).trans (But.set gc 3 _ _)).trans (But.set gc 4 _ _), Ap, pn, cp, own_but HO2.out (((But.set gc 2 _ _).trans (But.set gc 3 _ _)).trans (But.set gc 4 _ _)) hlt, ((HV2.out.set 2 _).set 3 _).set 4 _⟩
/-- A change that the call made: its places' own memory, and its cells. -/
def chV (x : Frm.Chg) (Ap : Option Addr) (p cp : Nat) : List Value := [.string x.key, .bool x.dead, .slice Ap p cp, .int .u64 (x.blob.gen : Int), .int .i64 x.blob.size]
set_option maxHeartbeats 2000000 in
theorem frmChg (g : Nat) (A : Option Addr) (n c : Nat) (bs : List UInt8) (behind : ByteArray) (st : Frm.St) (w : World) (hs : Src w g A n c bs) (h : RdI g A n c st w) (ho : StOk bs st) :
    Calls Try.prog 29 #[.pointer (some ⟨g, 0, none⟩), .string behind] w fun e W' => ∃ Ap p cp, e = .returned (.agg #[.string (Frm.rdChg bs behind st).1.key, .bool (Frm.rdChg bs behind st).1.dead, .slice Ap p cp, .int .u64 ((Frm.rdChg bs behind st).1.blob.gen : Int), .int .i64 (Frm.rdChg bs behind st).1.blob.size]) ∧ W'.ownsRow w.heap.size 3 1 (.slice Ap p cp) p ((Frm.rdChg bs behind st).1.blob.places.map (Value.int .i64)) ∧ But g w W' ∧ RdI g A n c (Frm.rdChg bs behind st).2 W' := by
  have hg := Blk.lt h
  have HB0 := Lib.hid (But.below ((Below.refl w.heap.size w).alloc (Nat.le_refl _) (.cells #[.string ⟨#[]⟩, .bool false, .slice none 0 0, .int .u64 0, .int .i64 0] 57)) hg)
  have HX0 := Lib.hid (h.below ((Below.refl w.heap.size w).alloc (Nat.le_refl _) (.cells #[.string ⟨#[]⟩, .bool false, .slice none 0 0, .int .u64 0, .int .i64 0] 57)))
  have HR0 := Lib.hid (Blk.new w 57 #[.string ⟨#[]⟩, .bool false, .slice none 0 0, .int .u64 0, .int .i64 0])
  have HK := Lib.hid (frmKey g A n c bs behind st _ (hs.but HB0.out) HX0.out ho)
  have hok1 : StOk bs (Frm.rdKey bs behind st).2 := key_ok ho
  have hok2 : StOk bs (Frm.rdFlag bs (Frm.rdKey bs behind st).2).2 := flag_ok hok1
  have HF := Lib.hid fun W hs' hx => frmFlag g A n c bs (Frm.rdKey bs behind st).2 W hs' hx hok1
  unfold Frm.rdChg
  simp only
  generalize Frm.rdKey bs behind st = K at *
  obtain ⟨key, st1⟩ := K
  simp only at HK HF hok1 hok2 ⊢
  generalize Frm.rdFlag bs st1 = F at *
  obtain ⟨dead, st2⟩ := F
  simp only at HF hok2 ⊢
  have HS := Lib.hid hs
  have HOK := Lib.hid hok2
  obtain ⟨OUT, hOUT⟩ : ∃ OUT, (if dead = true then ((⟨key, true, Frm.nulB⟩, st2) : Frm.Chg × Frm.St) else if st2.2 ≠ 0 then (⟨key, false, Frm.nulB⟩, st2) else (⟨key, false, (Frm.rdBlob bs st2.1).1⟩, if (Frm.rdBlob bs st2.1).2.2 = 0 then ((Frm.rdBlob bs st2.1).2.1, 0) else (st2.1, (Frm.rdBlob bs st2.1).2.2))) = OUT := ⟨_, rfl⟩
  rw [hOUT]
  have HOUT := Lib.hid hOUT
  clear hOUT
  clear h hs ho hok1 hok2 HX0
  go_enter Try.func29, Try.ntmps29
  go_wp2_with fail
  refine HK.out.mono ?_
  rintro e w2 ⟨rfl, hb2, hx2⟩
  have HB2 := Lib.hid ((HB0.out.trans hb2).alloc hg (.cells #[.string key, .bool false, .slice none 0 0, .int .u64 0, .int .i64 0] 57))
  have HX2 := Lib.hid (RdI.below hx2 ((Below.refl w2.heap.size w2).alloc (Nat.le_refl _) (.cells #[.string key, .bool false, .slice none 0 0, .int .u64 0, .int .i64 0] 57)))
  have HR2 := Lib.hid ((HR0.out.but hb2 (by omega)).alloc (.cells #[.string key, .bool false, .slice none 0 0, .int .u64 0, .int .i64 0] 57))
  have HC2 := Lib.hid (Blk.new w2 57 #[.string key, .bool false, .slice none 0 0, .int .u64 0, .int .i64 0])
  have hgw2 : w.heap.size < w2.heap.size := by have := hb2.size; simp at this; omega
  clear hb2 hx2 HB0 HR0 HK
  go_wp2_with fail
  generalize w2.alloc _ = wa at *
  generalize w2.heap.size = gc at *
  refine (HF.out _ (HS.out.but HB2.out) HX2.out).mono ?_
  rintro e w3 ⟨rfl, hb3, hx3⟩
  have HB3 := Lib.hid (HB2.out.trans hb3)
  have HX3 := Lib.hid hx3
  have HR3 := Lib.hid (HR2.out.but hb3 (by omega))
  have HC3 := Lib.hid (HC2.out.but hb3 (by omega))
  have hf := HC3.out.frozen 1
  have hc := HC3.out.cell 1
  simp only [List.getElem?_toArray, List.getElem?_cons_zero, List.getElem?_cons_succ] at hc
  have HB4 := Lib.hid (HB3.out.far (v := .bool dead) (p := ⟨gc, 1, none⟩) (by simp; omega) hg)
  have HX4 : Hid (RdI g A n c st2 (w3.setCell ⟨gc, 1, none⟩ (.bool dead))) := Lib.hid (Blk.far HX3.out (by simp; omega) _)
  have HR4 := Lib.hid (HR3.out.far (p := ⟨gc, 1, none⟩) (by simp; omega) (.bool dead))
  have HC4 : Hid (Blk (w3.setCell ⟨gc, 1, none⟩ (.bool dead)) gc 57 #[.string key, .bool dead, .slice none 0 0, .int .u64 0, .int .i64 0]) := Lib.hid (HC3.out.set 1 (.bool dead))
  have hc4 := HC4.out.cell 1
  simp only [List.getElem?_toArray, List.getElem?_cons_zero, List.getElem?_cons_succ] at hc4
  clear hb3 hx3 HB2 HX2 HR2 HC2 HF HB3 HX3 HR3 HC3
  go_upto_region 3 with fail
  clear hc hf
  generalize w3.setCell _ _ = w4 at *
  cases dead
  · have HPP : ∃ st3 x, (if st2.2 ≠ 0 then ((⟨key, false, Frm.nulB⟩, st2) : Frm.Chg × Frm.St) else (⟨key, false, (Frm.rdBlob bs st2.1).1⟩, if (Frm.rdBlob bs st2.1).2.2 = 0 then ((Frm.rdBlob bs st2.1).2.1, 0) else (st2.1, (Frm.rdBlob bs st2.1).2.2))) = (⟨key, false, x⟩, st3) ∧
        Hid (Calls Try.prog 39 #[.pointer (some ⟨g, 0, none⟩), .func (.func 44) #[] #[.pointer (some ⟨gc, 0, none⟩)]] w4 fun e W' => e = .returned (.tuple #[]) ∧ But g w W' ∧ RdI g A n c st3 W' ∧ Blk W' w.heap.size 57 #[.string ⟨#[]⟩, .bool false, .slice none 0 0, .int .u64 0, .int .i64 0] ∧ ∃ Ap p cp, W'.ownsRow (w.heap.size + 1) 3 1 (.slice Ap p cp) p (x.places.map (Value.int .i64)) ∧ Blk W' gc 57 #[.string key, .bool false, .slice Ap p cp, .int .u64 (x.gen : Int), .int .i64 x.size]) := by
      by_cases h0 : st2.2 = 0
      · obtain ⟨a, q0⟩ := st2
        simp only at h0
        subst h0
        rw [if_neg (by simp)]
        have hsz := HC4.out.lt
        have hgl := Blk.lt HX4.out
        have HN := Lib.hid (frmChg1 gc (.string key) (.bool false) (.slice none 0 0) (.int .u64 0) (.int .i64 0) g A n c bs a w4.drew ((HS.out.but HB4.out).but (But.drewN _ _ 1)) (by show g ≤ w4.heap.size; omega) HOK.out HC4.out)
        generalize Frm.rdBlob bs a = V at *
        obtain ⟨x, p, q⟩ := V
        try simp only at HN
        refine ⟨_, _, rfl, Lib.hid ((frmPart 44 #[.pointer (some ⟨gc, 0, none⟩)] g A n c a p q w4 (fun W1 => But gc w4.drew W1 ∧ ∃ Ap p cp, W1.ownsRow w4.heap.size 3 1 (.slice Ap p cp) p (x.places.map (Value.int .i64)) ∧ Blk W1 gc 57 #[.string key, .bool false, .slice Ap p cp, .int .u64 (x.gen : Int), .int .i64 x.size]) (fun a W => by go_simp) HX4.out (HN.out.mono (by
          rintro e W' ⟨rfl, hb5, Ap, pn, cp, ho5, hc5⟩
          exact ⟨rfl, Blk.but (Blk.drewN HX4.out 1) hb5 (by omega), hb5, Ap, pn, cp, ho5, hc5⟩))).mono ?_)⟩
        rintro e w5 ⟨rfl, w1, ⟨hb5, Ap, pn, cp, ho5, hc5⟩, hb6, hx6⟩
        have hgc : g ≠ gc := by omega
        refine ⟨rfl, ?_, hx6, ((HR4.out.drewN 1).but hb5 (by omega)).but hb6 (by omega), Ap, pn, cp, own_lowerS (own_but ho5 hb6 (by omega)) (by omega), hc5.but hb6 (by omega)⟩
        refine ⟨fun B a hB hb => hb6.bel B a hB (hb5.bel B a (by omega) (below_drewN (HB4.out.bel B a hB hb) 1)), fun k hk hkg => ?_, Nat.le_trans HB4.out.size (Nat.le_trans hb5.size hb6.size)⟩
        have h1 := HB4.out.oth k hk hkg
        have h2 := hb5.oth k (Nat.lt_of_lt_of_le hk HB4.out.size) (by omega)
        have h3 := hb6.oth k (Nat.lt_of_lt_of_le hk (Nat.le_trans HB4.out.size hb5.size)) hkg
        exact h3.trans (h2.trans h1)
      · rw [if_pos h0]
        refine ⟨_, _, rfl, Lib.hid ((frmPart0 44 #[.pointer (some ⟨gc, 0, none⟩)] g A n c st2 w4 HX4.out h0).mono ?_)⟩
        rintro e W' ⟨rfl, rfl⟩
        exact ⟨rfl, HB4.out, HX4.out, HR4.out, none, 0, 0, World.ownsRow_nil _ _ _ _, HC4.out⟩
    obtain ⟨st3, x, hE, HP⟩ := HPP
    obtain rfl : OUT = (⟨key, false, x⟩, st3) := by
      rw [← HOUT.out, if_neg (by simp)]
      exact hE
    clear HB4 HX4 HR4 HC4 hE HOUT
    go_wp2_with fail
    refine HP.out.mono ?_
    rintro e w5 ⟨rfl, hb5, hx5, hr5, Ap, pn, cp, ho5, hc5⟩
    have HB5 := Lib.hid hb5
    have HX5 := Lib.hid hx5
    have HR5 := Lib.hid hr5
    have HO5 := Lib.hid ho5
    have HC5 := Lib.hid hc5
    clear hb5 hx5 hr5 ho5 hc5 hc4 HP
    go_wp2_with (first | (refine wpList_load_row rfl 57 (.tmp 5) rfl gc rfl 57 _ (0, 0) _ HC5.out Try.underlying57 rfl infoChg ?_) | (refine wpList_store_row rfl 57 (.tmp 4) (.tmp 19) rfl w.heap.size #[.string key, .bool false, .slice Ap pn cp, .int .u64 (x.gen : Int), .int .i64 x.size] rfl rfl 57 #[.string ⟨#[]⟩, .bool false, .slice none 0 0, .int .u64 0, .int .i64 0] HR5.out infoChg rfl (by simp [Value.oneCell']) ?_))
    refine bodyPost_ret (results_cell_row (g := w.heap.size) (t := 57) (cs := #[.string key, .bool false, .slice Ap pn cp, .int .u64 (x.gen : Int), .int .i64 x.size]) (fr := (0, 0)) rfl _ _ _ rfl (Blk.row HR5.out _) Try.underlying57 rfl infoChg) rfl ?_
    refine ⟨Ap, pn, cp, rfl, own_lowerS (own_from HO5.out (fun k hk _ => setRow_other _ _ k _ (by omega))) (by omega), ?_, ?_⟩
    · exact ⟨fun B a hB hb => below_setRow (HB5.out.bel B a hB hb) (by omega) _, fun k hk hkg => (setRow_other _ _ k _ (by omega)).trans (HB5.out.oth k hk hkg), by rw [size_setRow]; exact HB5.out.size⟩
    · exact Blk.rowFar HX5.out (by omega) _
  · obtain rfl : OUT = (⟨key, true, Frm.nulB⟩, st2) := by rw [← HOUT.out, if_pos rfl]
    clear HOUT
    go_wp2_with (first | (refine wpList_load_row rfl 57 (.tmp 5) rfl gc rfl 57 _ (0, 0) _ HC4.out Try.underlying57 rfl infoChg ?_) | (refine wpList_store_row rfl 57 (.tmp 4) (.tmp 15) rfl w.heap.size #[.string key, .bool true, .slice none 0 0, .int .u64 0, .int .i64 0] rfl rfl 57 #[.string ⟨#[]⟩, .bool false, .slice none 0 0, .int .u64 0, .int .i64 0] HR4.out infoChg rfl (by simp [Value.oneCell']) ?_))
    refine bodyPost_ret (results_cell_row (g := w.heap.size) (t := 57) (cs := #[.string key, .bool true, .slice none 0 0, .int .u64 0, .int .i64 0]) (fr := (0, 0)) rfl _ _ _ rfl (Blk.row HR4.out _) Try.underlying57 rfl infoChg) rfl ?_
    refine ⟨none, 0, 0, rfl, World.ownsRow_nil _ _ _ _, ?_, ?_⟩
    · exact ⟨fun B a hB hb => below_setRow (HB4.out.bel B a hB hb) (by omega) _, fun k hk hkg => (setRow_other _ _ k _ (by omega)).trans (HB4.out.oth k hk hkg), by rw [size_setRow]; exact HB4.out.size⟩
    · exact Blk.rowFar HX4.out (by omega) _
end Cib
