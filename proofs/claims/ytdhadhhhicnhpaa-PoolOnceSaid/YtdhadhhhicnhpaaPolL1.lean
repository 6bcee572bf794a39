/- The law PoolOnce. -/
import Derived.Test.YtdhadhhhicnhpaaPolM
import Derived.Deep.CutBlock
set_option linter.unusedVariables false
set_option linter.unusedSimpArgs false
set_option maxRecDepth 40000
namespace Cib
open Go Go.RowKit Go.Proofs
theorem OnT.of {w wr : World} {g f N : Nat} {x : PlP} {O Z : List Bool} {U M : List Int} {AU AM : Option Addr} {cU cM : Nat} (h : OnS w g f N x O Z U M AU cU AM cM wr) : OnT w g f x O Z U M AU cU AM cM wr := ⟨h.pl, h.ls, h.below⟩
/-- In Take's loop: the state, and what was got. -/
structure OnG (w : World) (g f : Nat) (x : PlP) (O Z : List Bool) (U M : List Int) (AU : Option Addr) (cU : Nat) (AM : Option Addr) (cM : Nat) (G : List Int) (AG : Option Addr) (m c : Nat) (wr : World) : Prop where
  t : OnT w g f x O Z U M AU cU AM cM wr
  own : wr.ownsRow w.heap.size 3 1 (.slice AG m c) m (G.map zv)
theorem OnG.drewN {w wr : World} {g f : Nat} {x : PlP} {O Z : List Bool} {U M : List Int} {AU AM : Option Addr} {cU cM : Nat} {G : List Int} {AG : Option Addr} {m c : Nat} (h : OnG w g f x O Z U M AU cU AM cM G AG m c wr) (q : Nat) : OnG w g f x O Z U M AU cU AM cM G AG m c (wr.drewN q) := ⟨h.t.drewN q, h.own⟩
theorem one_z {L : List Int} : ∀ u ∈ L.map zv, u.oneCell' = true := by
  intro u hu
  obtain ⟨b, _, rfl⟩ := List.mem_map.1 hu
  rfl
theorem sizeInt : (Try.prog.info? 3).map (·.size) = some 1 := by kernel_rfl
theorem LsT.of {w wr w1 : World} {g f : Nat} {x : PlP} {O Z : List Bool} {U M U' M' : List Int} {AU AM AU' AM' : Option Addr} {cU cM cU' cM' : Nat} (h : OnT w g f x O Z U M AU cU AM cM wr) (hs : Same [3] wr w1) (hb : Below w.heap.size wr w1) (hl : Ls2 w1 w.heap.size U' M' AU' cU' AM' cM') : OnT w g f x O Z U' M' AU' cU' AM' cM' w1 :=
  ⟨h.pl.sameI hs, hl, h.below.trans hb⟩
/-- In Later's loop. -/
structure OnL (w : World) (g f : Nat) (x : PlP) (O Z : List Bool) (U M : List Int) (AU : Option Addr) (cU : Nat) (AM : Option Addr) (cM : Nat) (gb : Nat) (kind n : Int) (xr : IntR) (ep : Nat) (wr : World) : Prop where
  t : OnT w g f x O Z U M AU cU AM cM wr
  box : Blk wr gb 30 #[.int .i64 kind, .int .i64 n, .slice xr.A xr.l.length xr.c, .int .u64 (ep : Int)]
theorem OnL.on {w wr wr' : World} {g f : Nat} {x : PlP} {O Z : List Bool} {U M : List Int} {AU AM : Option Addr} {cU cM gb : Nat} {kind n : Int} {xr : IntR} {ep : Nat} (h : OnL w g f x O Z U M AU cU AM cM gb kind n xr ep wr) (hb : Below wr.heap.size wr wr') : OnL w g f x O Z U M AU cU AM cM gb kind n xr ep wr' :=
  ⟨⟨h.t.pl.below hb, h.t.ls.below hb, h.t.below.trans (hb.mono h.t.below.size)⟩, h.box.below hb h.box.lt⟩
theorem lim_step {U M l : List Int} {k : Nat} (h : k < l.length) : (l.take (k + 1)).foldl (Bmp.lim1 U) M = Bmp.lim1 U ((l.take k).foldl (Bmp.lim1 U) M) l[k] := by
  rw [List.take_succ_eq_append_getElem h, List.foldl_append]
  rfl
set_option maxHeartbeats 8000000 in
theorem lawOnce (first count : Int) (A : Option Addr) (cap : Nat) (l : List ActP) (w : World) (h : Rd w w.heap.size A (l.map actPRow).flatten) (hl : l.length ≤ maxLen) (hok : ∀ x ∈ l, x.ok w w.heap.size) (hf : -9223372036854775808 ≤ first ∧ first ≤ 9223372036854775807) (hc : -9223372036854775808 ≤ count ∧ count ≤ 9223372036854775807) :
    Calls Try.prog 3 #[.int .i64 first, .int .i64 count, .slice A l.length cap] w fun e w' => e = .returned (.bool true) ∧ Below w.heap.size w w' := by
  by_cases hout : Out1 first count l
  · exact lawOnceOut first count A cap l w h hl hf hc hout
  have HG := Lib.hid (fun W => lawGives W)
  have hlm := hl
  unfold maxLen at hlm
  have hp : plOk first count = true := by
    cases hb : plOk first count
    · exact absurd (.inl hb) hout
    · rfl
  have hbf : fewP l = true := by
    cases hb : fewP l
    · exact absurd (.inr (.inr hb)) hout
    · rfl
  have hp' : 0 ≤ first ∧ 1 ≤ count ∧ count ≤ 400 ∧ first + count ≤ 600 := of_decide_eq_true hp
  obtain ⟨hp1, hp2, hp3, hp4⟩ := hp'
  obtain ⟨f, rfl⟩ : ∃ f : Nat, first = f := ⟨first.toNat, by omega⟩
  obtain ⟨N, rfl⟩ : ∃ N : Nat, count = N := ⟨count.toNat, by omega⟩
  have hN100 : N ≤ 100 := by
    rcases Nat.lt_or_ge 100 N with hlt | hge
    · exact absurd (.inr (.inl (by omega))) hout
    · exact hge
  have HN := Lib.hid (plNew f N (by omega) (by omega) (by omega) w)
  have hdN : decide ((100 : Int) < (N : Int)) = false := decide_eq_false (by omega)
  have HFW := Lib.hid fun w1 (hb : Below w.heap.size w w1) => lawFewP (h.below hb) rfl hl cap
  rw [hbf] at HFW
  obtain ⟨hl80, hfew⟩ := fewP_of hbf
  have HFEW := Lib.hid hfew
  have HOK := Lib.hid hok
  have HRD := Lib.hid h
  clear h hok hp hbf hfew hout hl
  go_enter Try.func3, Try.ntmps3
  go_wp2_with fail
  refine HN.out.mono ?_
  rintro e w1 ⟨g, x, rfl, hpl1, hb1⟩
  have HF1 := Lib.hid (HFW.out w1 hb1)
  have H0 : Hid (OnS w g f N x (List.replicate N false) (List.replicate N false) [] [] none 0 none 0 w1) := Lib.hid ⟨hpl1, Bmp.OnceI.start f N, by simp, Ls2.none _ _, hb1⟩
  clear HFW HN hpl1 hb1
  go_wp2_with fail
  refine HF1.out.mono ?_
  rintro e w2 ⟨rfl, rfl⟩
  clear HF1
  go_wp2
  go_loopw [8, 9, 10] (fun o m i wr => ∃ (k : Nat) (O Z : List Bool) (U M : List Int) (AU AM : Option Addr) (cU cM : Nat), k ≤ l.length ∧ o = .slice AU U.length cU ∧ m = .slice AM M.length cM ∧ i = .int .i64 k ∧ Hid (OnS w g f N x O Z U M AU cU AM cM wr)) (fun _ _ i _ => l.length - (intOf i).toNat)
  case atStart => exact ⟨0, _, _, [], [], none, none, 0, 0, Nat.zero_le _, rfl, rfl, rfl, H0⟩
  case round =>
    clear H0
    obtain ⟨k, O, Z, U, M, AU, AM, cU, cM, hk, rfl, rfl, rfl, hS⟩ := hrel
    by_cases hlt : k < l.length
    · obtain ⟨bb, off, rfl, _, hc0, hc1, hc2, hc3⟩ := actP_at (HRD.out.below hS.out.below) hlt
      have hxo := HOK.out _ (List.getElem_mem hlt)
      have hxl := HFEW.out _ (List.getElem_mem hlt)
      generalize l[k] = a at *
      obtain ⟨kind, n, xr, ep⟩ := a
      simp only at hc0 hc1 hc2 hc3 hxl
      obtain ⟨hn, hxr, _⟩ := hxo
      have HXR := Lib.hid hxr
      have HNB : Hid (-9223372036854775808 ≤ n ∧ n ≤ 9223372036854775807) := Lib.hid hn
      clear hxr hn
      simp only [IntR.v] at hc2
      have hal : Below wr.heap.size wr (wr.alloc (.cells #[.int .i64 kind, .int .i64 n, .slice xr.A xr.l.length xr.c, .int .u64 (ep : Int)] 30)) := (Below.refl _ _).alloc (Nat.le_refl _) _
      have HSa := Lib.hid (hS.out.on hal)
      have HBX := Lib.hid (Blk.new wr 30 #[.int .i64 kind, .int .i64 n, .slice xr.A xr.l.length xr.c, .int .u64 (ep : Int)])
      go_upto_block 2 with fail
      generalize hwa : wr.alloc _ = wa at *
      generalize hgb : wr.heap.size = gb at *
      clear hwa hgb hal hS hc0 hc1 hc2 hc3
      go_cut [8, 9] (fun o m wx => ∃ (O' Z' : List Bool) (U' M' : List Int) (AU' AM' : Option Addr) (cU' cM' : Nat), o = .slice AU' U'.length cU' ∧ m = .slice AM' M'.length cM' ∧ Hid (OnS w g f N x O' Z' U' M' AU' cU' AM' cM' wx))
      case first =>
        go_upto_if 43 with fail
        go_cut [43] (fun b wx => b = .bool (decide (kind = 0 ∨ kind = 1 ∨ kind = 2)) ∧ wx = wa)
        case first =>
          by_cases h0 : kind = 0
          · subst h0
            go_wp2
            go_meet
            exact ⟨rfl, rfl⟩
          · have hk0 : (kind == 0) = false := by simpa using h0
            by_cases h1 : kind = 1
            · subst h1
              go_wp2
              go_meet
              exact ⟨rfl, rfl⟩
            · have hk1 : (kind == 1) = false := by simpa using h1
              have hd : (kind == 2) = decide (kind = 0 ∨ kind = 1 ∨ kind = 2) := by
                by_cases h2 : kind = 2 <;> simp [h0, h1, h2]
              go_wp2
              go_meet
              exact ⟨bool_eq hd, rfl⟩
        case rest =>
          obtain ⟨rfl, rfl⟩ := hcut
          obtain ⟨tk, htk⟩ : ∃ b, decide (kind = 0 ∨ kind = 1 ∨ kind = 2) = b := ⟨_, rfl⟩
          rw [htk]
          have HTK := Lib.hid htk
          clear htk
          have hfw := HSa.out.few
          have HOn := Lib.hid (OnT.of HSa.out)
          have HON := Lib.hid HSa.out.once
          have HHO := Lib.hid HSa.out.hO
          have hsz := HSa.out.below.size
          have c0 := HBX.out.cell 0
          have c1 := HBX.out.cell 1
          have c2 := HBX.out.cell 2
          simp only [List.getElem?_toArray, List.getElem?_cons_zero, List.getElem?_cons_succ] at c0 c1 c2
          cases tk
          · have hnt : ¬ (kind = 0 ∨ kind = 1 ∨ kind = 2) := of_decide_eq_false HTK.out
            by_cases h4 : kind = 4
            · as_aux_lemma =>
                subst h4
                clear c0 c1 HTK
                have HGV := Lib.hid (plGive HSa.out.pl hsz w.heap.size xr.A xr.l.length xr.c xr.l rfl (by omega) HXR.out.size (fun w' h1 _ => (HXR.out.below (HSa.out.below.trans h1)).rd))
                go_wp2_with fail
                refine HGV.out.mono ?_
                rintro e w4 ⟨rfl, hp4, hb4, hs4⟩
                have d2 := (HBX.out.same hs4 (by decide)).cell 2
                simp only [List.getElem?_toArray, List.getElem?_cons_zero, List.getElem?_cons_succ] at d2
                have HL4 := Lib.hid (HOn.out.ls.same hs4 (by decide))
                have HB4 := Lib.hid (HOn.out.below.trans hb4)
                have HW4 := Lib.hid (lawWithout (Rd.of_own HL4.out.u) (HXR.out.below HB4.out).rd (Nat.le_refl _) HB4.out.size rfl rfl (by omega) (by omega) cU xr.c)
                have HP4 := Lib.hid hp4
                clear hp4 hb4 hs4 HGV c2
                go_wp2_with fail
                refine HW4.out.mono ?_
                rintro e w5 ⟨A5, n5, c5, rfl, rfl, ho5, hb5⟩
                have HO4 := Lib.hid (HON.out.give xr.l)
                have HL5 := Lib.hid (HL4.out.newU HB4.out.size ho5 hb5)
                have HS5 : Hid (OnS w g f N x (Bmp.turnF false f O Z xr.l).2.1 (Bmp.turnF false f O Z xr.l).2.2 (U.filter fun a => !decide (a ∈ xr.l)) M A5 c5 AM cM w5) := Lib.hid ⟨HP4.out.below hb5, HO4.out, (by rw [Bmp.turnF_len]; exact HHO.out), HL5.out, HB4.out.via hb5⟩
                clear HO4 HL5 ho5 hb5 HW4 HP4 HL4
                go_wp2
                go_meet
                exact ⟨_, _, _, M, A5, AM, c5, cM, rfl, rfl, HS5⟩
            · by_cases h5 : kind = 5
              · as_aux_lemma =>
                  subst h5
                  clear c0 c1 HTK
                  have HGV := Lib.hid (plLater HSa.out.pl hsz w.heap.size xr.A xr.l.length xr.c xr.l rfl (by omega) HXR.out.size (fun w' h1 _ => (HXR.out.below (HSa.out.below.trans h1)).rd))
                  go_wp2_with fail
                  refine HGV.out.mono ?_
                  rintro e w4 ⟨rfl, hp4, hb4, hs4⟩
                  have HI4 : Hid (OnL w g f x (Bmp.turnF true f O Z xr.l).2.1 (Bmp.turnF true f O Z xr.l).2.2 U M AU cU AM cM gb 5 n xr ep w4) := Lib.hid ⟨⟨hp4, HOn.out.ls.same hs4 (by decide), HOn.out.below.trans hb4⟩, HBX.out.same hs4 (by decide)⟩
                  have HO4 := Lib.hid (HON.out.later xr.l)
                  have HLN : Hid ((Bmp.turnF true f O Z xr.l).2.1.length = N) := Lib.hid (by rw [Bmp.turnF_len]; exact HHO.out)
                  generalize Bmp.turnF true f O Z xr.l = T at *
                  obtain ⟨tn, O', Z'⟩ := T
                  simp only at HI4 HO4 HLN
                  clear hp4 hb4 hs4 HGV c2
                  go_wp2
                  go_loopw [9, 15] (fun m i wr => ∃ (j : Nat) (M' : List Int) (AM' : Option Addr) (cM' : Nat), m = .slice AM' M'.length cM' ∧ i = .int .i64 j ∧ j ≤ xr.l.length ∧ M'.length ≤ M.length + j ∧ Hid ((xr.l.take j).foldl (Bmp.lim1 U) M = M') ∧ Hid (OnL w g f x O' Z' U M' AU cU AM' cM' gb 5 n xr ep wr)) (fun _ i _ => xr.l.length - (intOf i).toNat)
                  case atStart => exact ⟨0, M, AM, cM, rfl, rfl, Nat.zero_le _, Nat.le_refl _, Lib.hid rfl, HI4⟩
                  case round =>
                    clear HI4
                    obtain ⟨j, M', AM', cM', rfl, rfl, hj, hMl, hMe, hI⟩ := hrel
                    have d2 := hI.out.box.cell 2
                    simp only [List.getElem?_toArray, List.getElem?_cons_zero, List.getElem?_cons_succ] at d2
                    have hszr := hI.out.t.below.size
                    by_cases hjl : j < xr.l.length
                    · obtain ⟨ad, hAX, hcj⟩ := rd_z (HXR.out.below hI.out.t.below).rd hjl
                      have HSTEP := Lib.hid (lim_step (U := U) (M := M) hjl)
                      rw [hMe.out] at HSTEP
                      have HI1 := Lib.hid (lawIn (Rd.of_own hI.out.t.ls.u) rfl (by omega) cU xr.l[j])
                      have HI2 := Lib.hid (lawIn (Rd.of_own hI.out.t.ls.m) rfl (by omega) cM' xr.l[j])
                      have HL1 : Hid (Bmp.lim1 U M' xr.l[j] = if (decide (xr.l[j] ∈ U) && !decide (xr.l[j] ∈ M')) = true then M' ++ [xr.l[j]] else M') := Lib.hid (by
                        unfold Bmp.lim1
                        by_cases hu : xr.l[j] ∈ U <;> by_cases hm : xr.l[j] ∈ M' <;> simp [hu, hm])
                      generalize xr.l[j] = v at *
                      generalize decide (v ∈ U) = b1 at *
                      generalize decide (v ∈ M') = b2 at *
                      rw [hAX] at d2
                      clear hAX
                      cases b1
                      · rw [if_neg (by simp)] at HL1
                        go_wp2_with fail
                        refine HI1.out.mono ?_
                        rintro e wz ⟨rfl, rfl⟩
                        go_wp2
                        go_roundw
                        case rel => exact ⟨j + 1, M', AM', cM', rfl, by go_num, hjl, by omega, Lib.hid (HSTEP.out.trans HL1.out), hI⟩
                        case measure => simp [intOf]; omega
                      · cases b2
                        · rw [if_pos (by decide)] at HL1
                          obtain ⟨i0, hi, hz0, hz1, hz2⟩ := info_parts infoInt
                          go_wp2_with fail
                          refine HI1.out.mono ?_
                          rintro e wz ⟨rfl, rfl⟩
                          go_wp2_with fail
                          refine HI2.out.mono ?_
                          rintro e wy ⟨rfl, rfl⟩
                          have HIA := Lib.hid (hI.out.on ((Below.refl _ _).alloc (Nat.le_refl _) (.cells #[zv v] 3)))
                          clear hI
                          go_wp2_with (at_builtin; go_loud (refine wpList_appX _ rfl (.tmp 152) (.tmp 158) _ rfl w.heap.size 3 i0 _ 8 Try.underlying27 hi hz0 hz1 hz2 rfl AM' M'.length cM' (M'.map zv) rfl HIA.out.t.ls.m _ (some ⟨wy.heap.size, 0, none⟩) 1 1 ([v].map zv) rfl rfl (Rd.new wy _ _ _ rfl) one_z (by unfold maxLen; omega) (by omega) (by simp; omega) ?_; intro A5 c5 w5 ho5 hg5 hb5 hx5; have HO5 := Lib.hid ho5; have HG5 := Lib.hid hg5; have HB5 := Lib.hid hb5; have HX5 := Lib.hid hx5; clear ho5 hg5 hb5 hx5))
                          go_roundw
                          case rel =>
                            have HNX : Hid (OnL w g f x O' Z' U (M' ++ [v]) AU cU A5 c5 gb 5 n xr ep w5) := Lib.hid ⟨⟨HIA.out.t.pl.sameI (Same.grown HIA.out.t.ls.m HG5.out (by decide)), HIA.out.t.ls.appM HO5.out rfl HG5.out HX5.out, HIA.out.t.below.trans HB5.out⟩, HIA.out.box.same (Same.grown (ts := [3]) HIA.out.t.ls.m HG5.out (by decide)) (by decide)⟩
                            exact ⟨j + 1, M' ++ [v], A5, c5, by rw [List.length_append]; rfl, by go_num, hjl, by rw [List.length_append]; simp; omega, Lib.hid (HSTEP.out.trans HL1.out), HNX⟩
                          case measure => simp [intOf]; omega
                        · rw [if_neg (by decide)] at HL1
                          go_wp2_with fail
                          refine HI1.out.mono ?_
                          rintro e wz ⟨rfl, rfl⟩
                          go_wp2_with fail
                          refine HI2.out.mono ?_
                          rintro e wy ⟨rfl, rfl⟩
                          go_wp2
                          go_roundw
                          case rel => exact ⟨j + 1, M', AM', cM', rfl, by go_num, hjl, by omega, Lib.hid (HSTEP.out.trans HL1.out), hI⟩
                          case measure => simp [intOf]; omega
                    · obtain rfl : j = xr.l.length := by omega
                      have HW4 := Lib.hid (lawWithout (Rd.of_own hI.out.t.ls.u) (HXR.out.below hI.out.t.below).rd (Nat.le_refl _) hszr rfl rfl (by omega) (by omega) cU xr.c)
                      have HMF : Hid (xr.l.foldl (Bmp.lim1 U) M = M') := Lib.hid (by have := hMe.out; rw [List.take_of_length_le (Nat.le_refl _)] at this; exact this)
                      rw [HMF.out] at HO4
                      go_wp2_with fail
                      refine HW4.out.mono ?_
                      rintro e w5 ⟨A5, n5, c5, rfl, rfl, ho5, hb5⟩
                      have HS5 : Hid (OnS w g f N x O' Z' (U.filter fun a => !decide (a ∈ xr.l)) M' A5 c5 AM' cM' w5) := Lib.hid ⟨hI.out.t.pl.below hb5, HO4.out, HLN.out, hI.out.t.ls.newU hszr ho5 hb5, hI.out.t.below.via hb5⟩
                      clear ho5 hb5 HW4 hI
                      go_wp2
                      go_meet
                      exact ⟨_, _, _, M', A5, AM', c5, cM', rfl, rfl, HS5⟩
              · as_aux_lemma =>
                  by_cases h6 : kind = 6
                  · subst h6
                    clear c0 c1 c2 HTK
                    have HST := Lib.hid (plSettle HSa.out.pl hsz)
                    rw [← HON.out.lenM] at HST
                    go_wp2_with fail
                    refine HST.out.mono ?_
                    rintro e w4 ⟨rfl, hp4, hb4, hs4⟩
                    have HS5 : Hid (OnS w g f N x (Bmp.clrN O (Bmp.trues Z 0)) (Bmp.clrN Z (Bmp.trues Z 0)) U [] AU cU none 0 w4) := Lib.hid ⟨hp4, HON.out.settle, (by rw [Bmp.clrN_length]; exact HHO.out), (HOn.out.ls.same hs4 (by decide)).noM, HOn.out.below.trans hb4⟩
                    clear hp4 hb4 hs4 HST
                    go_wp2
                    go_meet
                    exact ⟨_, _, U, [], AU, none, cU, 0, rfl, rfl, HS5⟩
                  · have hk4 : (kind == 4) = false := by simpa using h4
                    have hk5 : (kind == 5) = false := by simpa using h5
                    have hk6 : (kind == 6) = false := by simpa using h6
                    clear c0 c1 c2 HTK
                    go_wp2
                    go_meet
                    exact ⟨O, Z, U, M, AU, AM, cU, cM, rfl, rfl, HSa⟩
          · as_aux_lemma =>
              clear c0 c2
              have HO2 := Lib.hid (Bmp.once_take HSa.out.once n)
              have HTK2 := Lib.hid (plTake HSa.out.pl hsz n HNB.out)
              unfold TakeR at HTK2
              obtain ⟨T, hT⟩ : ∃ T, Bmp.takeF O n = T := ⟨_, rfl⟩
              rw [hT] at HO2 HTK2
              clear hT
              obtain ⟨L, er, O'⟩ := T
              simp only at HO2 HTK2
              go_wp2_with fail
              refine HTK2.out.mono ?_
              rintro e w4 ⟨AG, mG, cG, rfl, hmG, hoG, hp4, hb4, hs4⟩
              rw [← got_rows] at hoG
              rw [List.length_map, show L.length = (Bmp.gotL f L).length by simp [Bmp.gotL]] at hmG
              obtain ⟨ho1, ho2, ho3, ho4⟩ := HO2.out
              have her : er = 0 ∨ Bmp.gotL f L = [] := ho3.imp id (fun e => by rw [e]; rfl)
              generalize Bmp.gotL f L = G at *
              have HG1 := Lib.hid ho1
              have HG2 := Lib.hid ho2
              have HG4 := Lib.hid ho4
              have HMG := Lib.hid hmG
              have HE : Hid (er = 0 ∨ mG = 0) := Lib.hid (her.imp id fun e => by rw [← hmG, e]; rfl)
              have hmN : mG ≤ 100 := by
                have h1 := ho1.all
                have h2 : O'.count true ≤ O'.length := List.count_le_length ..
                rw [ho4, HHO.out] at h2
                simp only [List.length_append, hmG] at h1
                omega
              have HT4 : Hid (OnG w g f x O' Z U M AU cU AM cM G AG mG cG w4) := Lib.hid ⟨⟨hp4, HOn.out.ls.same hs4 (by decide), HOn.out.below.trans hb4⟩, own_lowerS hoG hsz⟩
              clear ho1 ho2 ho3 ho4 her hmG hoG hp4 hb4 hs4 HO2 HTK2 HSa HOn HON HNB c1 HBX
              go_upto_region 15 with fail
              go_cut [60] (fun b wy => b = .bool false ∧ wy = w4)
              case first =>
                rcases HE.out with he | he
                · subst he
                  go_wp2
                  go_meet
                  exact ⟨rfl, rfl⟩
                · subst he
                  by_cases he0 : er = 0
                  · subst he0
                    go_wp2
                    go_meet
                    exact ⟨rfl, rfl⟩
                  · have he1 : (er == 0) = false := by simpa using he0
                    have he2 : (er != 0) = true := by simpa using he0
                    go_wp2
                    go_meet
                    exact ⟨rfl, rfl⟩
              case rest =>
                obtain ⟨rfl, rfl⟩ := hcut
                go_wp2
                go_loopw [14] (fun i wy => ∃ j : Nat, i = .int .i64 j ∧ j ≤ mG ∧ Hid (OnG w g f x O' Z U M AU cU AM cM G AG mG cG wy)) (fun i _ => mG - (intOf i).toNat)
                case atStart => exact ⟨0, rfl, Nat.zero_le _, HT4⟩
                case round =>
                  clear HT4
                  obtain ⟨j, rfl, hj, hI⟩ := hrel
                  by_cases hjl : j < mG
                  · have hjG : j < G.length := by rw [HMG.out]; exact hjl
                    obtain ⟨ad, hAG, hcj⟩ := rd_z (Rd.of_own hI.out.own) hjG
                    obtain ⟨q1, q2, q3, q4, q5⟩ := HG2.out j hjG
                    rw [HHO.out] at q5
                    have HI1 := Lib.hid (lawIn (Rd.of_own (hI.out.drewN 1).t.ls.u) rfl (by omega) cU G[j])
                    have HI2 := Lib.hid (lawIn (Rd.of_own (hI.out.drewN 1).t.ls.m) rfl (by omega) cM G[j])
                    have hrt := (Rd.of_own (hI.out.drewN 1).own).take j
                    rw [← List.map_take] at hrt
                    have HI3 := Lib.hid (lawIn hrt (n := j) (by rw [List.length_take]; omega) (by omega) cG G[j])
                    rw [decide_eq_false q1] at HI1
                    rw [decide_eq_false q2] at HI2
                    rw [decide_eq_false q3] at HI3
                    have hcap := own_cap hI.out.own
                    have hsl := fun W : World => run_cut_to (P := Try.prog) 27 3 Try.underlying27 sizeInt AG mG cG j .i64 (by omega) W
                    generalize G[j] = v at *
                    have hd1 : decide (v < (f : Int)) = false := decide_eq_false (by omega)
                    have hwf : IntKind.i64.wrap ((f : Int) + (N : Int)) = (f : Int) + (N : Int) := by rw [IntKind.wrap_i64]; omega
                    have hd2 : decide ((f : Int) + (N : Int) ≤ v) = false := decide_eq_false (by omega)
                    subst hAG
                    clear q1 q2 q3 hrt hjG
                    have had : (ad.add j).block < wr.heap.size := block_lt_of_cell hcj
                    go_upto_region 20 with fail
                    refine wp_region_held_drew (S := (fun wQq => Below (World.heap (wr.drew)).size (wr.drew) wQq)) (by kernel_rfl) (by exact Below.refl _ _) (fun _ => ?_)
                    refine wpAnyH_take (i := 0) (v := ?_) rfl (by kernel_rfl) (by kernel_rfl) (by kernel_rfl) (fun _ _ _ h => h) (Or.inl ⟨by rfl, ?_⟩) (Below.refl _ _) ?_
                    rotate_left
                    · intro wS hSw
                      go_simp
                      try with_reducible rfl
                    try simp only [List.getElem_toArray, List.getElem_cons_zero, List.getElem_cons_succ, Act.put, List.setIfInBounds_toArray, List.set_cons_zero, List.set_cons_succ]
                    refine wpAnyH_take (i := 1) (v := ?_) rfl (by kernel_rfl) (by kernel_rfl) (by kernel_rfl) (fun _ _ _ h => h) (Or.inl ⟨by rfl, ?_⟩) (Below.refl _ _) ?_
                    rotate_left
                    · intro wS hSw
                      go_simp
                      try with_reducible rfl
                    try simp only [List.getElem_toArray, List.getElem_cons_zero, List.getElem_cons_succ, Act.put, List.setIfInBounds_toArray, List.set_cons_zero, List.set_cons_succ]
                    refine wpAnyH_take (i := 2) (v := ?_) rfl (by kernel_rfl) (by kernel_rfl) (by kernel_rfl) (fun _ _ _ h => h) (Or.inl ⟨by rfl, ?_⟩) (Below.refl _ _) ?_
                    rotate_left
                    · intro wS hSw
                      go_simp
                      try with_reducible rfl
                    try simp only [List.getElem_toArray, List.getElem_cons_zero, List.getElem_cons_succ, Act.put, List.setIfInBounds_toArray, List.set_cons_zero, List.set_cons_succ]
                    refine wpAnyH_take (i := 4) (v := ?_) rfl (by kernel_rfl) (by kernel_rfl) (by kernel_rfl) (fun _ _ _ h => h) (Or.inl ⟨by rfl, ?_⟩) (Below.refl _ _) ?_
                    rotate_left
                    · intro wS hSw
                      go_simp
                      try with_reducible rfl
                    try simp only [List.getElem_toArray, List.getElem_cons_zero, List.getElem_cons_succ, Act.put, List.setIfInBounds_toArray, List.set_cons_zero, List.set_cons_succ]
                    refine wpAnyH_take (i := 3) (v := ?_) rfl (by kernel_rfl) (by kernel_rfl) (by kernel_rfl) (fun _ _ _ h => h) (Or.inl ⟨by rfl, ?_⟩) (Below.refl _ _) ?_
                    rotate_left
                    · intro wS hSw
                      have hcv := ((hSw.cell (by exact had)).trans hcj)
                      go_simp
                      try with_reducible rfl
                    try simp only [List.getElem_toArray, List.getElem_cons_zero, List.getElem_cons_succ, Act.put, List.setIfInBounds_toArray, List.set_cons_zero, List.set_cons_succ]
                    refine wpAnyH_ready (rs := [5]) (by kernel_rfl) (by simp) ?_
                    refine AllReadyH.cons rfl (fun K hK => ?_) AllReadyH.nil
                    go_simp
                    refine HI1.out.mono ?_
                    rintro e wz ⟨rfl, hz⟩
                    subst wz
                    refine hK.out _ _ (Below.refl _ _) (fun _ => ?_)
                    clear hK K
                    try simp only [List.getElem_toArray, List.getElem_cons_zero, List.getElem_cons_succ, Act.put, List.setIfInBounds_toArray, List.set_cons_zero, List.set_cons_succ]
                    refine wpAnyH_take (i := 6) (v := ?_) rfl (by kernel_rfl) (by kernel_rfl) (by kernel_rfl) (fun _ _ _ h => h) (Or.inl ⟨by rfl, ?_⟩) (Below.refl _ _) ?_
                    rotate_left
                    · intro wS hSw
                      go_simp
                      try with_reducible rfl
                    try simp only [List.getElem_toArray, List.getElem_cons_zero, List.getElem_cons_succ, Act.put, List.setIfInBounds_toArray, List.set_cons_zero, List.set_cons_succ]
                    refine wpAnyH_take (i := 7) (v := ?_) rfl (by kernel_rfl) (by kernel_rfl) (by kernel_rfl) (fun _ _ _ h => h) (Or.inl ⟨by rfl, ?_⟩) (Below.refl _ _) ?_
                    rotate_left
                    · intro wS hSw
                      go_simp
                      try with_reducible rfl
                    try simp only [List.getElem_toArray, List.getElem_cons_zero, List.getElem_cons_succ, Act.put, List.setIfInBounds_toArray, List.set_cons_zero, List.set_cons_succ]
                    refine wpAnyH_take (i := 8) (v := ?_) rfl (by kernel_rfl) (by kernel_rfl) (by kernel_rfl) (fun _ _ _ h => h) (Or.inl ⟨by rfl, ?_⟩) (Below.refl _ _) ?_
                    rotate_left
                    · intro wS hSw
                      go_simp
                      try with_reducible rfl
                    try simp only [List.getElem_toArray, List.getElem_cons_zero, List.getElem_cons_succ, Act.put, List.setIfInBounds_toArray, List.set_cons_zero, List.set_cons_succ]
                    refine wpAnyH_take (i := 9) (v := ?_) rfl (by kernel_rfl) (by kernel_rfl) (by kernel_rfl) (fun _ _ _ h => h) (Or.inl ⟨by rfl, ?_⟩) (Below.refl _ _) ?_
                    rotate_left
                    · intro wS hSw
                      go_simp
                      try with_reducible rfl
                    try simp only [List.getElem_toArray, List.getElem_cons_zero, List.getElem_cons_succ, Act.put, List.setIfInBounds_toArray, List.set_cons_zero, List.set_cons_succ]
                    refine wpAnyH_take (i := 11) (v := ?_) rfl (by kernel_rfl) (by kernel_rfl) (by kernel_rfl) (fun _ _ _ h => h) (Or.inl ⟨by rfl, ?_⟩) (Below.refl _ _) ?_
                    rotate_left
                    · intro wS hSw
                      go_simp
                      try with_reducible rfl
                    try simp only [List.getElem_toArray, List.getElem_cons_zero, List.getElem_cons_succ, Act.put, List.setIfInBounds_toArray, List.set_cons_zero, List.set_cons_succ]
                    refine wpAnyH_take (i := 10) (v := ?_) rfl (by kernel_rfl) (by kernel_rfl) (by kernel_rfl) (fun _ _ _ h => h) (Or.inl ⟨by rfl, ?_⟩) (Below.refl _ _) ?_
                    rotate_left
                    · intro wS hSw
                      have hcv := ((hSw.cell (by exact had)).trans hcj)
                      go_simp
                      try with_reducible rfl
                    try simp only [List.getElem_toArray, List.getElem_cons_zero, List.getElem_cons_succ, Act.put, List.setIfInBounds_toArray, List.set_cons_zero, List.set_cons_succ]
                    refine wpAnyH_ready (rs := [12]) (by kernel_rfl) (by simp) ?_
                    refine AllReadyH.cons rfl (fun K hK => ?_) AllReadyH.nil
                    go_simp
                    refine HI2.out.mono ?_
                    rintro e wz ⟨rfl, hz⟩
                    subst wz
                    refine hK.out _ _ (Below.refl _ _) (fun _ => ?_)
                    clear hK K
                    try simp only [List.getElem_toArray, List.getElem_cons_zero, List.getElem_cons_succ, Act.put, List.setIfInBounds_toArray, List.set_cons_zero, List.set_cons_succ]
                    refine wpAnyH_take (i := 13) (v := ?_) rfl (by kernel_rfl) (by kernel_rfl) (by kernel_rfl) (fun _ _ _ h => h) (Or.inl ⟨by rfl, ?_⟩) (Below.refl _ _) ?_
                    rotate_left
                    · intro wS hSw
                      go_simp
                      try with_reducible rfl
                    try simp only [List.getElem_toArray, List.getElem_cons_zero, List.getElem_cons_succ, Act.put, List.setIfInBounds_toArray, List.set_cons_zero, List.set_cons_succ]
                    refine wpAnyH_take (i := 14) (v := ?_) rfl (by kernel_rfl) (by kernel_rfl) (by kernel_rfl) (fun _ _ _ h => h) (Or.inl ⟨by rfl, ?_⟩) (Below.refl _ _) ?_
                    rotate_left
                    · intro wS hSw
                      go_simp
                      try with_reducible rfl
                    try simp only [List.getElem_toArray, List.getElem_cons_zero, List.getElem_cons_succ, Act.put, List.setIfInBounds_toArray, List.set_cons_zero, List.set_cons_succ]
                    refine wpAnyH_take (i := 15) (v := ?_) rfl (by kernel_rfl) (by kernel_rfl) (by kernel_rfl) (fun _ _ _ h => h) (Or.inl ⟨by rfl, ?_⟩) (Below.refl _ _) ?_
                    rotate_left
                    · intro wS hSw
                      go_simp
                      try with_reducible rfl
                    try simp only [List.getElem_toArray, List.getElem_cons_zero, List.getElem_cons_succ, Act.put, List.setIfInBounds_toArray, List.set_cons_zero, List.set_cons_succ]
                    refine wpAnyH_take (i := 16) (v := ?_) rfl (by kernel_rfl) (by kernel_rfl) (by kernel_rfl) (fun _ _ _ h => h) (Or.inl ⟨by rfl, ?_⟩) (Below.refl _ _) ?_
                    rotate_left
                    · intro wS hSw
                      go_simp
                      try with_reducible rfl
                    try simp only [List.getElem_toArray, List.getElem_cons_zero, List.getElem_cons_succ, Act.put, List.setIfInBounds_toArray, List.set_cons_zero, List.set_cons_succ]
                    refine wpAnyH_take (i := 17) (v := ?_) rfl (by kernel_rfl) (by kernel_rfl) (by kernel_rfl) (fun _ _ _ h => h) (Or.inl ⟨by rfl, ?_⟩) (Below.refl _ _) ?_
                    rotate_left
                    · intro wS hSw
                      go_simp
                      try with_reducible rfl
                    try simp only [List.getElem_toArray, List.getElem_cons_zero, List.getElem_cons_succ, Act.put, List.setIfInBounds_toArray, List.set_cons_zero, List.set_cons_succ]
                    refine wpAnyH_take (i := 19) (v := ?_) rfl (by kernel_rfl) (by kernel_rfl) (by kernel_rfl) (fun _ _ _ h => h) (Or.inl ⟨by rfl, ?_⟩) (Below.refl _ _) ?_
                    rotate_left
                    · intro wS hSw
                      go_simp
                      try with_reducible rfl
                    try simp only [List.getElem_toArray, List.getElem_cons_zero, List.getElem_cons_succ, Act.put, List.setIfInBounds_toArray, List.set_cons_zero, List.set_cons_succ]
                    refine wpAnyH_take (i := 20) (v := ?_) rfl (by kernel_rfl) (by kernel_rfl) (by kernel_rfl) (fun _ _ _ h => h) (Or.inl ⟨by rfl, ?_⟩) (Below.refl _ _) ?_
                    rotate_left
                    · intro wS hSw
                      go_simp
                      try with_reducible rfl
                    try simp only [List.getElem_toArray, List.getElem_cons_zero, List.getElem_cons_succ, Act.put, List.setIfInBounds_toArray, List.set_cons_zero, List.set_cons_succ]
                    refine wpAnyH_take (i := 21) (v := ?_) rfl (by kernel_rfl) (by kernel_rfl) (by kernel_rfl) (fun _ _ _ h => h) (Or.inl ⟨by rfl, ?_⟩) (Below.refl _ _) ?_
                    rotate_left
                    · intro wS hSw
                      go_simp
                      try with_reducible rfl
                    try simp only [List.getElem_toArray, List.getElem_cons_zero, List.getElem_cons_succ, Act.put, List.setIfInBounds_toArray, List.set_cons_zero, List.set_cons_succ]
                    refine wpAnyH_take (i := 18) (v := ?_) rfl (by kernel_rfl) (by kernel_rfl) (by kernel_rfl) (fun _ _ _ h => h) (Or.inl ⟨by rfl, ?_⟩) (Below.refl _ _) ?_
                    rotate_left
                    · intro wS hSw
                      have hcv := ((hSw.cell (by exact had)).trans hcj)
                      go_simp
                      try with_reducible rfl
                    try simp only [List.getElem_toArray, List.getElem_cons_zero, List.getElem_cons_succ, Act.put, List.setIfInBounds_toArray, List.set_cons_zero, List.set_cons_succ]
                    refine wpAnyH_ready (rs := [22]) (by kernel_rfl) (by simp) ?_
                    refine AllReadyH.cons rfl (fun K hK => ?_) AllReadyH.nil
                    go_simp
                    refine HI3.out.mono ?_
                    rintro e wz ⟨rfl, hz⟩
                    subst wz
                    refine hK.out _ _ (Below.refl _ _) (fun _ => ?_)
                    clear hK K
                    try simp only [List.getElem_toArray, List.getElem_cons_zero, List.getElem_cons_succ, Act.put, List.setIfInBounds_toArray, List.set_cons_zero, List.set_cons_succ]
                    refine wpAnyH_take (i := 23) (v := ?_) rfl (by kernel_rfl) (by kernel_rfl) (by kernel_rfl) (fun _ _ _ h => h) (Or.inl ⟨by rfl, ?_⟩) (Below.refl _ _) ?_
                    rotate_left
                    · intro wS hSw
                      go_simp
                      try with_reducible rfl
                    try simp only [List.getElem_toArray, List.getElem_cons_zero, List.getElem_cons_succ, Act.put, List.setIfInBounds_toArray, List.set_cons_zero, List.set_cons_succ]
                    refine wpAnyH_take (i := 24) (v := ?_) rfl (by kernel_rfl) (by kernel_rfl) (by kernel_rfl) (fun _ _ _ h => h) (Or.inl ⟨by rfl, ?_⟩) (Below.refl _ _) ?_
                    rotate_left
                    · intro wS hSw
                      go_simp
                      try with_reducible rfl
                    try simp only [List.getElem_toArray, List.getElem_cons_zero, List.getElem_cons_succ, Act.put, List.setIfInBounds_toArray, List.set_cons_zero, List.set_cons_succ]
                    refine wpAnyH_take (i := 25) (v := ?_) rfl (by kernel_rfl) (by kernel_rfl) (by kernel_rfl) (fun _ _ _ h => h) (Or.inl ⟨by rfl, ?_⟩) (Below.refl _ _) ?_
                    rotate_left
                    · intro wS hSw
                      go_simp
                      try with_reducible rfl
                    try simp only [List.getElem_toArray, List.getElem_cons_zero, List.getElem_cons_succ, Act.put, List.setIfInBounds_toArray, List.set_cons_zero, List.set_cons_succ]
                    refine wpAnyH_take (i := 26) (v := ?_) rfl (by kernel_rfl) (by kernel_rfl) (by kernel_rfl) (fun _ _ _ h => h) (Or.inl ⟨by rfl, ?_⟩) (Below.refl _ _) ?_
                    rotate_left
                    · intro wS hSw
                      go_simp
                      try with_reducible rfl
                    try simp only [List.getElem_toArray, List.getElem_cons_zero, List.getElem_cons_succ, Act.put, List.setIfInBounds_toArray, List.set_cons_zero, List.set_cons_succ]
                    refine wpAnyH_take (i := 27) (v := ?_) rfl (by kernel_rfl) (by kernel_rfl) (by kernel_rfl) (fun _ _ _ h => h) (Or.inl ⟨by rfl, ?_⟩) (Below.refl _ _) ?_
                    rotate_left
                    · intro wS hSw
                      go_simp
                      try with_reducible rfl
                    try simp only [List.getElem_toArray, List.getElem_cons_zero, List.getElem_cons_succ, Act.put, List.setIfInBounds_toArray, List.set_cons_zero, List.set_cons_succ]
                    refine wpAnyH_take (i := 29) (v := ?_) rfl (by kernel_rfl) (by kernel_rfl) (by kernel_rfl) (fun _ _ _ h => h) (Or.inl ⟨by rfl, ?_⟩) (Below.refl _ _) ?_
                    rotate_left
                    · intro wS hSw
                      go_simp
                      try with_reducible rfl
                    try simp only [List.getElem_toArray, List.getElem_cons_zero, List.getElem_cons_succ, Act.put, List.setIfInBounds_toArray, List.set_cons_zero, List.set_cons_succ]
                    refine wpAnyH_take (i := 28) (v := ?_) rfl (by kernel_rfl) (by kernel_rfl) (by kernel_rfl) (fun _ _ _ h => h) (Or.inl ⟨by rfl, ?_⟩) (Below.refl _ _) ?_
                    rotate_left
                    · intro wS hSw
                      have hcv := ((hSw.cell (by exact had)).trans hcj)
                      go_simp
                      try with_reducible rfl
                    try simp only [List.getElem_toArray, List.getElem_cons_zero, List.getElem_cons_succ, Act.put, List.setIfInBounds_toArray, List.set_cons_zero, List.set_cons_succ]
                    refine wpAnyH_take (i := 30) (v := ?_) rfl (by kernel_rfl) (by kernel_rfl) (by kernel_rfl) (fun _ _ _ h => h) (Or.inl ⟨by rfl, ?_⟩) (Below.refl _ _) ?_
                    rotate_left
                    · intro wS hSw
                      go_simp
                      try with_reducible rfl
                    try simp only [List.getElem_toArray, List.getElem_cons_zero, List.getElem_cons_succ, Act.put, List.setIfInBounds_toArray, List.set_cons_zero, List.set_cons_succ]
                    refine wpAnyH_take (i := 31) (v := ?_) rfl (by kernel_rfl) (by kernel_rfl) (by kernel_rfl) (fun _ _ _ h => h) (Or.inl ⟨by rfl, ?_⟩) (Below.refl _ _) ?_
                    rotate_left
                    · intro wS hSw
                      go_simp
                      try with_reducible rfl
                    try simp only [List.getElem_toArray, List.getElem_cons_zero, List.getElem_cons_succ, Act.put, List.setIfInBounds_toArray, List.set_cons_zero, List.set_cons_succ]
                    refine wpAnyH_take (i := 32) (v := ?_) rfl (by kernel_rfl) (by kernel_rfl) (by kernel_rfl) (fun _ _ _ h => h) (Or.inl ⟨by rfl, ?_⟩) (Below.refl _ _) ?_
                    rotate_left
                    · intro wS hSw
                      go_simp
                      try with_reducible rfl
                    try simp only [List.getElem_toArray, List.getElem_cons_zero, List.getElem_cons_succ, Act.put, List.setIfInBounds_toArray, List.set_cons_zero, List.set_cons_succ]
                    refine wpAnyH_take (i := 33) (v := ?_) rfl (by kernel_rfl) (by kernel_rfl) (by kernel_rfl) (fun _ _ _ h => h) (Or.inl ⟨by rfl, ?_⟩) (Below.refl _ _) ?_
                    rotate_left
                    · intro wS hSw
                      go_simp
                      try with_reducible rfl
                    try simp only [List.getElem_toArray, List.getElem_cons_zero, List.getElem_cons_succ, Act.put, List.setIfInBounds_toArray, List.set_cons_zero, List.set_cons_succ]
                    refine wpAnyH_take (i := 34) (v := ?_) rfl (by kernel_rfl) (by kernel_rfl) (by kernel_rfl) (fun _ _ _ h => h) (Or.inl ⟨by rfl, ?_⟩) (Below.refl _ _) ?_
                    rotate_left
                    · intro wS hSw
                      go_simp
                      try with_reducible rfl
                    try simp only [List.getElem_toArray, List.getElem_cons_zero, List.getElem_cons_succ, Act.put, List.setIfInBounds_toArray, List.set_cons_zero, List.set_cons_succ]
                    refine wpAnyH_take (i := 35) (v := ?_) rfl (by kernel_rfl) (by kernel_rfl) (by kernel_rfl) (fun _ _ _ h => h) (Or.inl ⟨by rfl, ?_⟩) (Below.refl _ _) ?_
                    rotate_left
                    · intro wS hSw
                      go_simp
                      try with_reducible rfl
                    try simp only [List.getElem_toArray, List.getElem_cons_zero, List.getElem_cons_succ, Act.put, List.setIfInBounds_toArray, List.set_cons_zero, List.set_cons_succ]
                    refine wpAnyH_take (i := 37) (v := ?_) rfl (by kernel_rfl) (by kernel_rfl) (by kernel_rfl) (fun _ _ _ h => h) (Or.inl ⟨by rfl, ?_⟩) (Below.refl _ _) ?_
                    rotate_left
                    · intro wS hSw
                      go_simp
                      try with_reducible rfl
                    try simp only [List.getElem_toArray, List.getElem_cons_zero, List.getElem_cons_succ, Act.put, List.setIfInBounds_toArray, List.set_cons_zero, List.set_cons_succ]
                    refine wpAnyH_take (i := 38) (v := ?_) rfl (by kernel_rfl) (by kernel_rfl) (by kernel_rfl) (fun _ _ _ h => h) (Or.inl ⟨by rfl, ?_⟩) (Below.refl _ _) ?_
                    rotate_left
                    · intro wS hSw
                      go_simp
                      try with_reducible rfl
                    try simp only [List.getElem_toArray, List.getElem_cons_zero, List.getElem_cons_succ, Act.put, List.setIfInBounds_toArray, List.set_cons_zero, List.set_cons_succ]
                    refine wpAnyH_take (i := 39) (v := ?_) rfl (by kernel_rfl) (by kernel_rfl) (by kernel_rfl) (fun _ _ _ h => h) (Or.inl ⟨by rfl, ?_⟩) (Below.refl _ _) ?_
                    rotate_left
                    · intro wS hSw
                      go_simp
                      try with_reducible rfl
                    try simp only [List.getElem_toArray, List.getElem_cons_zero, List.getElem_cons_succ, Act.put, List.setIfInBounds_toArray, List.set_cons_zero, List.set_cons_succ]
                    refine wpAnyH_take (i := 36) (v := ?_) rfl (by kernel_rfl) (by kernel_rfl) (by kernel_rfl) (fun _ _ _ h => h) (Or.inl ⟨by rfl, ?_⟩) (Below.refl _ _) ?_
                    rotate_left
                    · intro wS hSw
                      have hcv := ((hSw.cell (by exact had)).trans hcj)
                      go_simp
                      try with_reducible rfl
                    try simp only [List.getElem_toArray, List.getElem_cons_zero, List.getElem_cons_succ, Act.put, List.setIfInBounds_toArray, List.set_cons_zero, List.set_cons_succ]
                    refine wpAnyH_take (i := 40) (v := ?_) rfl (by kernel_rfl) (by kernel_rfl) (by kernel_rfl) (fun _ _ _ h => h) (Or.inl ⟨by rfl, ?_⟩) (Below.refl _ _) ?_
                    rotate_left
                    · intro wS hSw
                      go_simp
                      try with_reducible rfl
                    try simp only [List.getElem_toArray, List.getElem_cons_zero, List.getElem_cons_succ, Act.put, List.setIfInBounds_toArray, List.set_cons_zero, List.set_cons_succ]
                    refine wpAnyH_take (i := 41) (v := ?_) rfl (by kernel_rfl) (by kernel_rfl) (by kernel_rfl) (fun _ _ _ h => h) (Or.inl ⟨by rfl, ?_⟩) (Below.refl _ _) ?_
                    rotate_left
                    · intro wS hSw
                      go_simp
                      try with_reducible rfl
                    try simp only [List.getElem_toArray, List.getElem_cons_zero, List.getElem_cons_succ, Act.put, List.setIfInBounds_toArray, List.set_cons_zero, List.set_cons_succ]
                    refine wpAnyH_done (by kernel_rfl) ?_ _
                    have HI5 := Lib.hid (hI.out.drewN 1)
                    clear HI1 HI2 HI3 hI
                    go_wp2
                    exact ⟨⟨j + 1, by go_num, hjl, HI5⟩, by simp [intOf]; omega⟩
                  · obtain rfl : j = mG := by omega
                    obtain ⟨i0, hi, hz0, hz1, hz2⟩ := info_parts infoInt
                    have HU := Lib.hid hI.out.t.ls.u
                    have HGG := Lib.hid (Rd.of_own hI.out.own)
                    have hszy := hI.out.t.below.size
                    go_wp2_with (at_builtin; go_loud (refine wpList_appX _ rfl (.tmp 109) (.tmp 110) _ rfl w.heap.size 3 i0 _ 8 Try.underlying27 hi hz0 hz1 hz2 rfl AU U.length cU (U.map zv) rfl HU.out _ AG j cG (G.map zv) rfl (by rw [List.length_map]; exact HMG.out) HGG.out one_z (by unfold maxLen; omega) (by omega) hszy ?_; intro A5 c5 w5 ho5 hg5 hb5 hx5; have HO5 := Lib.hid ho5; have HG5 := Lib.hid hg5; have HB5 := Lib.hid hb5; have HX5 := Lib.hid hx5; clear ho5 hg5 hb5 hx5))
                    go_meet
                    refine ⟨O', Z, U ++ G, M, A5, AM, c5, cM, by rw [List.length_append, HMG.out]; first | done | rfl, rfl, Lib.hid ⟨?_, HG1.out, HG4.out.trans HHO.out, ?_, ?_⟩⟩
                    · exact hI.out.t.pl.sameI (Same.grown HU.out HG5.out (by decide))
                    · exact hI.out.t.ls.appU HO5.out HMG.out HG5.out HX5.out
                    · exact hI.out.t.below.trans HB5.out
      case rest =>
        as_aux_lemma =>
          obtain ⟨O', Z', U', M', AU', AM', cU', cM', rfl, rfl, hT⟩ := hcut
          clear HSa HBX HXR HNB
          rename_i wc
          have hfw := hT.out.few
          have HFR := Lib.hid (plFree hT.out.pl)
          rw [show ((O'.length : Nat) : Int) - (O'.count true : Int) = (N : Int) - (U'.length : Int) - (M'.length : Int) by rw [hT.out.hO, hT.out.once.all]; omega] at HFR
          have HLB := Lib.hid fun q => plLimbo (hT.out.pl.drewN q)
          rw [← hT.out.once.lenM] at HLB
          have HTN := Lib.hid fun q => plTaken (hT.out.pl.drewN q)
          have HLU := Lib.hid hT.out.once.lenU
          go_wp2_with fail
          refine HFR.out.mono ?_
          rintro e w3 ⟨rfl, q, rfl⟩
          go_wp2_with fail
          refine (HLB.out q).mono ?_
          rintro e w3 ⟨rfl, rfl⟩
          go_wp2_with fail
          refine (HTN.out q).mono ?_
          rintro e w4 ⟨A4, n4, c4, rfl, hn4, ho4, hb4⟩
          rw [List.length_map, ← HLU.out] at hn4
          subst hn4
          have HT5 : Hid (OnS w g f N x O' Z' U' M' AU' cU' AM' cM' w4) := Lib.hid (OnS.on (wr := wc.drewN q) ⟨hT.out.pl.drewN q, hT.out.once, hT.out.hO, ⟨hT.out.ls.u, hT.out.ls.m, hT.out.ls.ne⟩, below_drewN hT.out.below q⟩ hb4)
          clear ho4 hb4 HFR HLB HTN hT
          go_wp2
          exact ⟨⟨k + 1, O', Z', U', M', AU', AM', cU', cM', hlt, rfl, rfl, by go_num, HT5⟩, by simp [intOf]; omega⟩
    · obtain rfl : k = l.length := by omega
      go_wp2_with fail
      refine (HG.out _).mono ?_
      rintro e w9 ⟨rfl, hb9⟩
      go_wp2
      go_ret
      exact ⟨rfl, hS.out.below.via hb9⟩
end Cib
