/- The document's Rank. -/
import Derived.Test.YtnicfpkadiamaaaMatR
import Derived.Test.YtnicfpkadiamaaaFldH
set_option linter.unusedVariables false
set_option linter.unusedSimpArgs false
set_option maxRecDepth 40000
namespace Cib
open Go Go.RowKit Go.Proofs
theorem row_rd {w : World} {B : Nat} {A : Option Addr} {bs : List UInt8} (hr : Rd w B A (bs.map bv)) {r c k i : Nat} (hl : bs.length = r * c) (hk : r * c ≤ k) (hi : i < r) : Rd w B (cut A k (i * c)) ((Lin.rowOf c bs i).map bv) := by
  have hle : (i + 1) * c ≤ r * c := Nat.mul_le_mul_right c hi
  rw [Nat.succ_mul] at hle
  have h2 := hr.cut (c := k) (k := i * c) (by simp; omega) (by simp; omega)
  have e : (Lin.rowOf c bs i).map bv = ((bs.map bv).drop (i * c)).take c := by
    rw [← List.map_drop, ← List.map_take]
    rfl
  rw [e]
  exact h2.take c
theorem red1_none {K row : List UInt8} (h : fstZ K < 0) : Lin.red1 K row = row := by
  unfold fstZ at h
  unfold Lin.red1
  split at h
  · omega
  · rename_i e
    rw [e]
theorem fstZ_some {K : List UInt8} (h : ¬ fstZ K < 0) : ∃ a : Nat, fstZ K = (a : Int) ∧ Lin.fstN K = some a := by
  unfold fstZ at h ⊢
  split at h
  · rename_i a e
    exact ⟨a, by simp, e⟩
  · omega
theorem red1_some {K row : List UInt8} {a : Nat} (h : Lin.fstN K = some a) : Lin.red1 K row = if row.getD a 0 ≠ 0 then foB (Fld.gdiv (row.getD a 0).toNat (K.getD a 0).toNat) K row else row := by
  unfold Lin.red1
  rw [h]
theorem fstZ_neg {row : List UInt8} : fstZ row < 0 ↔ Lin.fstN row = none := by
  unfold fstZ
  split
  · rename_i a e
    rw [e]
    constructor
    · intro h
      omega
    · intro h
      cases h
  · rename_i e
    rw [e]
    simp
/-- Rank under way: the kept rows. -/
structure RkI (w : World) (r : Int) (c : Nat) (A : Option Addr) (n k : Nat) (p : Nat) (A' : Option Addr) (c' : Nat) (L : List RowB) (wr : World) : Prop where
  own : wr.ownsRow w.heap.size 22 1 (.slice A' p c') p (L.map RowB.v)
  rows : ∀ x ∈ L, wr.ownsRow w.heap.size 5 1 (.slice x.A x.n x.c) x.n (x.bs.map bv)
  wid : ∀ x ∈ L, x.n = c
  mat : Blk wr w.heap.size 24 (mv r c A n k)
  below : Below w.heap.size w wr
theorem RkI.via {w wr w' : World} {r : Int} {c : Nat} {A : Option Addr} {n k p : Nat} {A' : Option Addr} {c' : Nat} {L : List RowB} (h : RkI w r c A n k p A' c' L wr) (hb : Below wr.heap.size wr w') : RkI w r c A n k p A' c' L w' :=
  ⟨own_belowS h.own hb, fun x hx => own_belowS (h.rows x hx) hb, h.wid, h.mat.below hb h.mat.lt, h.below.via hb⟩
theorem RkI.push {w wr w4 : World} {r : Int} {c : Nat} {A : Option Addr} {n k p : Nat} {A' : Option Addr} {c' : Nat} {L : List RowB} (h : RkI w r c A n k p A' c' L wr) {x : RowB} (hx : wr.ownsRow w.heap.size 5 1 (.slice x.A x.n x.c) x.n (x.bs.map bv)) (hn : x.n = c)
    {A4 : Option Addr} {c4 : Nat} (ho4 : w4.ownsRow w.heap.size 22 1 (.slice A4 (p + 1) c4) (p + 1) (L.map RowB.v ++ [x.v])) (hg4 : (wr.alloc (.cells #[x.v] 22)).grownBy w4 (Value.slice A' p c').ownBlock) :
    RkI w r c A n k (p + 1) A4 c4 (L ++ [x]) w4 := by
  have hal : Below wr.heap.size wr (wr.alloc (.cells #[x.v] 22)) := (Below.refl _ _).alloc (Nat.le_refl _) _
  have h1 := h.via hal
  have hs : Same [22] (wr.alloc (.cells #[x.v] 22)) w4 := Same.grown h1.own hg4 (by decide)
  refine ⟨by rw [List.map_append]; exact ho4, fun y hy => ?_, fun y hy => ?_, h1.mat.same hs (by decide), h1.below.grown hg4 h1.below.size fun k hk => (h1.own.lt k hk).1⟩
  · rcases List.mem_append.1 hy with hy | hy
    · exact own_same (h1.rows y hy) hs (by decide)
    · rw [List.mem_singleton] at hy
      subst hy
      exact own_same (own_belowS hx hal) hs (by decide)
  · rcases List.mem_append.1 hy with hy | hy
    · exact h.wid y hy
    · rw [List.mem_singleton] at hy
      subst hy
      exact hn
theorem RkI.at {w wr : World} {r : Int} {c : Nat} {A : Option Addr} {n k p : Nat} {A' : Option Addr} {c' : Nat} {L : List RowB} (h : RkI w r c A n k p A' c' L wr) {t : Nat} (ht : t < L.length) : L[t].At wr wr.heap.size :=
  have ho := h.rows _ (List.getElem_mem ht)
  ⟨Rd.of_own ho, by simpa using own_len ho, (own_cap ho).1, (own_cap ho).2⟩
/-- append to a row of bytes of the call's own, apart from the kept ones. -/
theorem RkI.grownB {w wr w5 : World} {r : Int} {c : Nat} {A : Option Addr} {n k p : Nat} {A' : Option Addr} {c' : Nat} {L : List RowB} (h : RkI w r c A n k p A' c' L wr) {b : Nat} {v : Value} {m : Nat} {xs : List Value} (ho : wr.ownsRow b 5 1 v m xs) (hg : wr.grownBy w5 v.ownBlock) (hb : w.heap.size ≤ b) (hfresh : ∀ x ∈ L, ∀ j, (Value.slice x.A x.n x.c).ownBlock = some j → v.ownBlock ≠ some j) : RkI w r c A n k p A' c' L w5 := by
  have hs : Same [5] wr w5 := Same.grown ho hg (by decide)
  refine ⟨own_same h.own hs (by decide), fun x hx => ?_, h.wid, h.mat.same hs (by decide), h.below.grown hg h.below.size fun j hj => Nat.le_trans hb (ho.lt j hj).1⟩
  have hx' := h.rows x hx
  refine ⟨hx'.1, ?_⟩
  rcases hx'.2 with h0 | ⟨g, cap, cur, hv, h1, h2, h3⟩
  · exact .inl h0
  · exact .inr ⟨g, cap, cur, hv, h1, (hg.block g (Array.getElem?_eq_some_iff.1 h2).1 (fun e => hfresh x hx g (by rw [hv]; rfl) e.symm)).trans h2, h3⟩
/-- A row from which the first kept ones were taken away. -/
structure RrI (w : World) (r : Int) (c : Nat) (A : Option Addr) (n k : Nat) (p : Nat) (A' : Option Addr) (c' : Nat) (L : List RowB) (Ar : Option Addr) (kr : Nat) (rb : List UInt8) (wr : World) : Prop where
  rk : RkI w r c A n k p A' c' L wr
  own : wr.ownsRow w.heap.size 5 1 (.slice Ar c kr) c (rb.map bv)
theorem keptF_wid {r c : Nat} {bs : List UInt8} (hl : bs.length = r * c) {i : Nat} (hi : i ≤ r) : (Lin.keptF c bs i).length ≤ i := by
  induction i with
  | zero => exact Nat.le_refl _
  | succ i ih =>
    have := ih (by omega)
    show (Lin.keepF _ _).length ≤ _
    unfold Lin.keepF
    split
    · omega
    · simp
      omega
theorem refRankNo4 (r c : Int) (A : Option Addr) (n k : Nat) (h : mr r c n = false) (w : World) : Calls Try.prog 15 #[.agg (mv r c A n k)] w fun e w' => e = .returned (.int .i64 0) ∧ Below w.heap.size w w' := by
  have hal : Below w.heap.size w (w.alloc (.cells (mv r c A n k) 24)) := (Below.refl _ _).alloc (Nat.le_refl _) _
  have HAL := Lib.hid hal
  have HR := Lib.hid fun W => refRight4 r c A n k W
  rw [h] at HR
  unfold mv at HAL HR ⊢
  clear hal h
  go_enter Try.func15, Try.ntmps15
  go_wp2_with fail
  refine (HR.out _).mono ?_
  rintro e w2 ⟨rfl, hb2⟩
  go_wp2
  go_ret
  exact ⟨rfl, HAL.out.via hb2⟩
set_option maxHeartbeats 4000000 in
theorem refRank4 (r c : Nat) (A : Option Addr) (n k : Nat) (bs : List UInt8) (w : World) (B : Nat) (hB : B ≤ w.heap.size) (hr : Rd w B A (bs.map bv)) (hbs : bs.length = r * c) (hn : n = r * c) (hk : n ≤ k) (hr1 : 1 ≤ r) (hr2 : r ≤ 255) (hc1 : 1 ≤ c) (hc2 : c ≤ 255) :
    Calls Try.prog 15 #[.agg (mv r c A n k)] w fun e w' => e = .returned (.int .i64 (Lin.rankF r c bs : Int)) ∧ Below w.heap.size w w' := by
  have hal : Below w.heap.size w (w.alloc (.cells (mv r c A n k) 24)) := (Below.refl _ _).alloc (Nat.le_refl _) _
  have HAL := Lib.hid hal
  have HR := Lib.hid fun W => refRight4 r c A n k W
  rw [show mr (r : Int) (c : Int) n = true from mr_true.2 ⟨by omega, by omega, by rw [hn]; simp⟩] at HR
  have HM0 := Lib.hid (Blk.new w 24 (mv r c A n k))
  have HRW := Lib.hid fun i (hi : i < r) W => refRow4 r c i A n k hi hr2 hc2 hn hk W
  have HRD := Lib.hid hr
  have HBS := Lib.hid hbs
  have hnk : r * c ≤ k := by omega
  have HKW := Lib.hid fun i (hi : i ≤ r) => keptF_wid (c := c) hbs hi
  have hnn : r * c ≤ 65025 := Nat.mul_le_mul hr2 hc2
  unfold Lin.rankF
  unfold mv at HAL HR HRW ⊢
  clear hal hr hbs hn hk
  go_enter Try.func15, Try.ntmps15
  go_wp2_with fail
  refine (HR.out _).mono ?_
  rintro e w2 ⟨rfl, hb2⟩
  have H0 : Hid (RkI w r c A n k 0 none 0 [] w2) := Lib.hid ⟨World.ownsRow_nil _ _ _ _, fun x hx => (by cases hx), fun x hx => (by cases hx), HM0.out.below hb2 (by simp), HAL.out.via hb2⟩
  clear hb2 HR
  go_wp2
  go_loopw [3, 4] (fun l i wr => ∃ (p q : Nat) (A' : Option Addr) (c' : Nat) (L : List RowB), l = .slice A' q c' ∧ i = .int .i64 p ∧ p ≤ r ∧ Hid (RkI w r c A n k q A' c' L wr) ∧ Hid (bsL L = Lin.keptF c bs p)) (fun _ i _ => r - (intOf i).toNat)
  case atStart => exact ⟨0, 0, none, 0, [], rfl, rfl, Nat.zero_le _, H0, Lib.hid rfl⟩
  case round =>
    clear H0
    obtain ⟨p, q, A', c', L, rfl, rfl, hp, hI, hL⟩ := hrel
    have HQL : Hid (L.length = q) := Lib.hid (by simpa using own_len hI.out.own)
    have hq : q ≤ 255 := by
      have h1 := HKW.out p hp
      rw [← hL.out, bsL_length, HQL.out] at h1
      omega
    by_cases hlt : p < r
    · have m0 := hI.out.mat.cell 0
      have m1 := hI.out.mat.cell 1
      have m2 := hI.out.mat.cell 2
      unfold mv at m0 m1 m2
      simp only [List.getElem?_toArray, List.getElem?_cons_zero, List.getElem?_cons_succ] at m0 m1 m2
      have hrl := Lin.rowOf_length HBS.out hlt
      have hKF : Lin.keptF c bs (p + 1) = Lin.keepF (bsL L) (Lin.rowOf c bs p) := by
        rw [hL.out]
        rfl
      have HKF := Lib.hid hKF
      have HRR := Lib.hid fun W (hW : Below w.heap.size w W) => row_rd (HRD.out.below (hW.mono hB)) HBS.out hnk hlt
      have HRWP := Lib.hid fun W => HRW.out p hlt W
      have HRL := Lib.hid hrl
      have hsz := hI.out.below.size
      have hlm := hI.out.mat.lt
      have HFR : Hid (∀ x ∈ L, ∀ j, (Value.slice x.A x.n x.c).ownBlock = some j → (Value.slice (some ⟨wr.heap.size, 0, none⟩) 0 0).ownBlock ≠ some j) := Lib.hid fun x hx j hj he => by
        have := ((hI.out.rows x hx).lt j hj).2
        simp [Value.ownBlock] at he
        omega
      generalize Lin.rowOf c bs p = row0 at *
      generalize cut A k (p * c) = Ap at *
      obtain ⟨kp, hkp⟩ : ∃ x, k - p * c = x := ⟨_, rfl⟩
      rw [hkp] at HRWP
      clear hkp hrl hKF hL
      go_wp2_with fail
      refine (HRWP.out _).mono ?_
      rintro e w3 ⟨rfl, hb3⟩
      have hal3 : Below wr.heap.size wr (wr.alloc (.cells #[] 5)) := (Below.refl _ _).alloc (Nat.le_refl _) _
      have hb3' := hal3.trans (hb3.mono hal3.size)
      have HI3 := Lib.hid (hI.out.via hb3')
      have HR3 := Lib.hid (HRR.out w3 HI3.out.below)
      have hoe : w3.ownsRow wr.heap.size 5 1 (.slice (some ⟨wr.heap.size, 0, none⟩) 0 0) 0 [] := own_belowS (World.ownsRow_made wr #[] 0 (Nat.le_refl _) (Nat.zero_le _) rfl) hb3
      have HOE := Lib.hid hoe
      have hz3 : wr.heap.size ≤ w3.heap.size := hb3'.size
      clear hoe hb3 hb3' hal3 hI HRR HRWP m0 m1 m2
      go_wp2_with (at_builtin; go_loud (refine appB _ rfl (.tmp 19) (.tmp 22) rfl wr.heap.size (some ⟨wr.heap.size, 0, none⟩) 0 0 [] rfl HOE.out _ Ap c kp (row0.map bv) rfl (by rw [List.length_map]; exact HRL.out) HR3.out one_bytes (by omega) hz3 ?_; intro A5 c5 w5 ho5 hg5 hb5; rw [Nat.zero_add, List.nil_append] at ho5; rw [Nat.zero_add]; have HS5 := Lib.hid (Same.grown (ts := [5]) HOE.out hg5 (by decide)); have HO5 := Lib.hid ho5; have HB5 := Lib.hid hb5; have HK5 := Lib.hid (HI3.out.grownB HOE.out hg5 hsz HFR.out); clear ho5 hg5 hb5))
      have H5 : Hid (RrI w r c A n k q A' c' L A5 c5 (Lin.redF ((bsL L).take 0) row0) w5) := Lib.hid ⟨HK5.out, own_lowerS HO5.out hsz⟩
      clear HK5 HO5 HB5 HS5 HI3 HR3 HOE
      go_loopw [5, 6] (fun l i wr => ∃ (t : Nat) (Ar : Option Addr) (kr : Nat), l = .slice Ar c kr ∧ i = .int .i64 t ∧ t ≤ q ∧ Hid (RrI w r c A n k q A' c' L Ar kr (Lin.redF ((bsL L).take t) row0) wr)) (fun _ i _ => q - (intOf i).toNat)
      case atStart => exact ⟨0, A5, c5, rfl, rfl, Nat.zero_le _, H5⟩
      case round =>
        clear H5
        obtain ⟨t, Ar, kr, rfl, rfl, ht, hJ⟩ := hrel
        by_cases htq : t < q
        · have htL : t < L.length := by rw [HQL.out]; exact htq
          obtain ⟨adK, hA, _, hcK⟩ := (Rd.of_own hJ.out.rk.own).row htL
          have hKat := hJ.out.rk.at htL
          have hKw := hJ.out.rk.wid _ (List.getElem_mem htL)
          have hRED := Lin.redF_take (kept := bsL L) (row := row0) (t := t) (by rw [bsL_length]; exact htL)
          rw [show (bsL L)[t]'(by rw [bsL_length]; exact htL) = L[t].bs by simp [bsL]] at hRED
          have HRED := Lib.hid hRED
          have hol : (Lin.redF ((bsL L).take t) row0).length = c := by simpa using own_len hJ.out.own
          have HJ := Lib.hid hJ.out
          generalize L[t] = K at *
          obtain ⟨AK, nK, kK, bK⟩ := K
          simp only at hcK hKw HRED
          obtain rfl : c = nK := hKw.symm
          have hKl : bK.length = c := hKat.len
          have hKc : c ≤ kK := hKat.cap
          have HFST := Lib.hid fun (W : World) (hW : Below wr.heap.size wr W) => refFirst4 AK c kK bK W wr.heap.size (hKat.rd.below hW) hKl (by omega)
          generalize Lin.redF ((bsL L).take t) row0 = rb at *
          have HKA := Lib.hid hKat
          have HA := Lib.hid hA
          clear hRED hKat hJ htL
          rw [hA]
          rw [hA] at HJ
          clear hA
          by_cases hneg : fstZ bK < 0
          · have HN : Hid (Lin.redF ((bsL L).take (t + 1)) row0 = rb) := Lib.hid (by rw [HRED.out, red1_none hneg])
            have HF0 := Lib.hid (HFST.out wr (Below.refl _ _))
            generalize fstZ bK = z at *
            clear HRED HFST
            go_wp2_with fail
            refine HF0.out.mono ?_
            rintro e w6 ⟨rfl, rfl⟩
            go_wp2
            go_roundw
            case rel => exact ⟨t + 1, Ar, kr, rfl, by go_num, htq, Lib.hid (by rw [HN.out]; exact HJ.out)⟩
            case measure => simp [intOf]; omega
          · obtain ⟨a, ha, hsome⟩ := fstZ_some hneg
            have haK : a < bK.length := (Lin.fstN_some hsome).1
            have hKne := (Lin.fstN_some hsome).2
            have hac : a < c := by rw [← hKl]; exact haK
            rw [red1_some hsome] at HRED
            rw [ha] at HFST
            have HF0 := Lib.hid (HFST.out wr (Below.refl _ _))
            obtain ⟨adr, hAr, _, hcr⟩ := (Rd.of_own HJ.out.own).byte (k := a) (by omega)
            rw [getD_0 (l := rb) (by omega), getD_0 haK] at HRED
            rw [getD_0 haK] at hKne
            obtain ⟨adk, hAK, _, hck⟩ := HKA.out.rd.byte (k := a) haK
            simp only at hAK
            have HAR := Lib.hid hAr
            have HAK := Lib.hid hAK
            have HRO := Lib.hid (Rd.of_own HJ.out.own)
            generalize rb[a]'(by omega) = x at *
            generalize bK[a]'haK = y at *
            clear hneg ha hsome HFST
            rw [hAK] at hcK
            rw [hAr]
            clear hAr hAK
            by_cases hx : x = 0
            · have HN : Hid (Lin.redF ((bsL L).take (t + 1)) row0 = rb) := Lib.hid (by rw [HRED.out, if_neg (by simpa using hx)])
              subst hx
              clear HRED
              rw [HAK.out] at HF0
              go_wp2_with fail
              refine HF0.out.mono ?_
              rintro e w6 ⟨rfl, rfl⟩
              go_wp2
              go_roundw
              case rel => exact ⟨t + 1, some adr, kr, rfl, by go_num, htq, Lib.hid (by rw [HN.out, ← HAR.out]; exact HJ.out)⟩
              case measure => simp [intOf]; omega
            · have HN : Hid (Lin.redF ((bsL L).take (t + 1)) row0 = foB (Fld.gdiv x.toNat y.toNat) bK rb) := Lib.hid (by rw [HRED.out, if_pos hx])
              have hx0 := Lin.ne8 hx
              have hb1 : (((x.toNat : Nat) : Int) == 0) = false := by simp; omega
              have hb2 : (((x.toNat : Nat) : Int) != 0) = true := by simp; omega
              have HDV := Lib.hid fun W => refDiv3 x.toNat y.toNat x.toNat_lt y.toNat_lt W
              rw [show divA x.toNat y.toNat = (Fld.gdiv x.toNat y.toNat, 0) by unfold divA; rw [if_neg (Lin.ne8 hKne)]] at HDV
              unfold pairV at HDV
              simp only at HDV
              have hdl := Fld.gdiv_lt x.toNat y.toNat
              have HDL := Lib.hid hdl
              generalize Fld.gdiv x.toNat y.toNat = d at *
              rw [HAK.out] at HF0
              have lk := block_lt_of_cell hcK
              have lr := block_lt_of_cell hcr
              have ly := block_lt_of_cell hck
              have HKR : Hid (Rd wr wr.heap.size (some adk) (bK.map bv)) := Lib.hid (by rw [← HAK.out]; exact HKA.out.rd)
              have HRR2 : Hid (Rd wr wr.heap.size (some adr) (rb.map bv)) := Lib.hid (by rw [← HAR.out]; exact HRO.out)
              have hsz2 := HJ.out.rk.below.size
              have HHKL := Lib.hid hKl
              have HHOL := Lib.hid hol
              clear hx HRED hKne hdl hx0 hKl hol
              go_wp2_with fail
              refine HF0.out.mono ?_
              rintro e w6 ⟨rfl, rfl⟩
              clear HF0
              go_wp2
              refine wp_region_held_drew (S := (fun wQq => Below (World.heap (w6.drew)).size (w6.drew) wQq)) (by kernel_rfl) (by exact Below.refl _ _) (fun _ => ?_)
              refine wpAnyH_take (i := 0) (v := ?_) rfl (by kernel_rfl) (by kernel_rfl) (by kernel_rfl) (fun _ _ _ h => h) (Or.inl ⟨by rfl, ?_⟩) (Below.refl _ _) ?_
              rotate_left
              · intro wS hSw
                go_simp
                try with_reducible rfl
              try simp only [List.getElem_toArray, List.getElem_cons_zero, List.getElem_cons_succ, Act.put, List.setIfInBounds_toArray, List.set_cons_zero, List.set_cons_succ]
              refine wpAnyH_take (i := 1) (v := ?_) rfl (by kernel_rfl) (by kernel_rfl) (by kernel_rfl) (fun _ _ _ h => h) (Or.inl ⟨by rfl, ?_⟩) (Below.refl _ _) ?_
              rotate_left
              · intro wS hSw
                go_simp
                try with_reducible rfl
              try simp only [List.getElem_toArray, List.getElem_cons_zero, List.getElem_cons_succ, Act.put, List.setIfInBounds_toArray, List.set_cons_zero, List.set_cons_succ]
              refine wpAnyH_take (i := 2) (v := ?_) rfl (by kernel_rfl) (by kernel_rfl) (by kernel_rfl) (fun _ _ _ h => h) (Or.inl ⟨by rfl, ?_⟩) (Below.refl _ _) ?_
              rotate_left
              · intro wS hSw
                go_simp
                try with_reducible rfl
              try simp only [List.getElem_toArray, List.getElem_cons_zero, List.getElem_cons_succ, Act.put, List.setIfInBounds_toArray, List.set_cons_zero, List.set_cons_succ]
              refine wpAnyH_take (i := 4) (v := ?_) rfl (by kernel_rfl) (by kernel_rfl) (by kernel_rfl) (fun _ _ _ h => h) (Or.inl ⟨by rfl, ?_⟩) (Below.refl _ _) ?_
              rotate_left
              · intro wS hSw
                go_simp
                try with_reducible rfl
              try simp only [List.getElem_toArray, List.getElem_cons_zero, List.getElem_cons_succ, Act.put, List.setIfInBounds_toArray, List.set_cons_zero, List.set_cons_succ]
              refine wpAnyH_take (i := 5) (v := ?_) rfl (by kernel_rfl) (by kernel_rfl) (by kernel_rfl) (fun _ _ _ h => h) (Or.inl ⟨by rfl, ?_⟩) (Below.refl _ _) ?_
              rotate_left
              · intro wS hSw
                go_simp
                try with_reducible rfl
              try simp only [List.getElem_toArray, List.getElem_cons_zero, List.getElem_cons_succ, Act.put, List.setIfInBounds_toArray, List.set_cons_zero, List.set_cons_succ]
              refine wpAnyH_take (i := 6) (v := ?_) rfl (by kernel_rfl) (by kernel_rfl) (by kernel_rfl) (fun _ _ _ h => h) (Or.inl ⟨by rfl, ?_⟩) (Below.refl _ _) ?_
              rotate_left
              · intro wS hSw
                go_simp
                try with_reducible rfl
              try simp only [List.getElem_toArray, List.getElem_cons_zero, List.getElem_cons_succ, Act.put, List.setIfInBounds_toArray, List.set_cons_zero, List.set_cons_succ]
              refine wpAnyH_take (i := 8) (v := ?_) rfl (by kernel_rfl) (by kernel_rfl) (by kernel_rfl) (fun _ _ _ h => h) (Or.inl ⟨by rfl, ?_⟩) (Below.refl _ _) ?_
              rotate_left
              · intro wS hSw
                go_simp
                try with_reducible rfl
              try simp only [List.getElem_toArray, List.getElem_cons_zero, List.getElem_cons_succ, Act.put, List.setIfInBounds_toArray, List.set_cons_zero, List.set_cons_succ]
              refine wpAnyH_take (i := 3) (v := ?_) rfl (by kernel_rfl) (by kernel_rfl) (by kernel_rfl) (fun _ _ _ h => h) (Or.inl ⟨by rfl, ?_⟩) (Below.refl _ _) ?_
              rotate_left
              · intro wS hSw
                have hcv := ((hSw.cell (p := adr.add a) (by exact lr)).trans hcr)
                go_simp
                try with_reducible rfl
              try simp only [List.getElem_toArray, List.getElem_cons_zero, List.getElem_cons_succ, Act.put, List.setIfInBounds_toArray, List.set_cons_zero, List.set_cons_succ]
              refine wpAnyH_take (i := 7) (v := ?_) rfl (by kernel_rfl) (by kernel_rfl) (by kernel_rfl) (fun _ _ _ h => h) (Or.inl ⟨by rfl, ?_⟩) (Below.refl _ _) ?_
              rotate_left
              · intro wS hSw
                have hcv := ((hSw.cell (p := adK.add t) (by exact lk)).trans hcK)
                go_simp
                try with_reducible rfl
              try simp only [List.getElem_toArray, List.getElem_cons_zero, List.getElem_cons_succ, Act.put, List.setIfInBounds_toArray, List.set_cons_zero, List.set_cons_succ]
              refine wpAnyH_take (i := 9) (v := ?_) rfl (by kernel_rfl) (by kernel_rfl) (by kernel_rfl) (fun _ _ _ h => h) (Or.inl ⟨by rfl, ?_⟩) (Below.refl _ _) ?_
              rotate_left
              · intro wS hSw
                go_simp
                try with_reducible rfl
              try simp only [List.getElem_toArray, List.getElem_cons_zero, List.getElem_cons_succ, Act.put, List.setIfInBounds_toArray, List.set_cons_zero, List.set_cons_succ]
              refine wpAnyH_take (i := 10) (v := ?_) rfl (by kernel_rfl) (by kernel_rfl) (by kernel_rfl) (fun _ _ _ h => h) (Or.inl ⟨by rfl, ?_⟩) (Below.refl _ _) ?_
              rotate_left
              · intro wS hSw
                have hcv := ((hSw.cell (p := adk.add a) (by exact ly)).trans hck)
                go_simp
                try with_reducible rfl
              try simp only [List.getElem_toArray, List.getElem_cons_zero, List.getElem_cons_succ, Act.put, List.setIfInBounds_toArray, List.set_cons_zero, List.set_cons_succ]
              refine wpAnyH_ready (rs := [11]) (by kernel_rfl) (by simp) ?_
              refine AllReadyH.cons rfl (fun K hK => ?_) AllReadyH.nil
              go_simp
              refine (HDV.out _).mono ?_
              rintro e wz ⟨rfl, hz⟩
              subst wz
              refine hK.out _ _ (Below.refl _ _) (fun _ => ?_)
              clear hK K
              try simp only [List.getElem_toArray, List.getElem_cons_zero, List.getElem_cons_succ, Act.put, List.setIfInBounds_toArray, List.set_cons_zero, List.set_cons_succ]
              refine wpAnyH_take (i := 12) (v := ?_) rfl (by kernel_rfl) (by kernel_rfl) (by kernel_rfl) (fun _ _ _ h => h) (Or.inl ⟨by rfl, ?_⟩) (Below.refl _ _) ?_
              rotate_left
              · intro wS hSw
                go_simp
                try with_reducible rfl
              try simp only [List.getElem_toArray, List.getElem_cons_zero, List.getElem_cons_succ, Act.put, List.setIfInBounds_toArray, List.set_cons_zero, List.set_cons_succ]
              refine wpAnyH_take (i := 13) (v := ?_) rfl (by kernel_rfl) (by kernel_rfl) (by kernel_rfl) (fun _ _ _ h => h) (Or.inl ⟨by rfl, ?_⟩) (Below.refl _ _) ?_
              rotate_left
              · intro wS hSw
                go_simp
                try with_reducible rfl
              try simp only [List.getElem_toArray, List.getElem_cons_zero, List.getElem_cons_succ, Act.put, List.setIfInBounds_toArray, List.set_cons_zero, List.set_cons_succ]
              refine wpAnyH_take (i := 14) (v := ?_) rfl (by kernel_rfl) (by kernel_rfl) (by kernel_rfl) (fun _ _ _ h => h) (Or.inl ⟨by rfl, ?_⟩) (Below.refl _ _) ?_
              rotate_left
              · intro wS hSw
                go_simp
                try with_reducible rfl
              try simp only [List.getElem_toArray, List.getElem_cons_zero, List.getElem_cons_succ, Act.put, List.setIfInBounds_toArray, List.set_cons_zero, List.set_cons_succ]
              refine wpAnyH_take (i := 15) (v := ?_) rfl (by kernel_rfl) (by kernel_rfl) (by kernel_rfl) (fun _ _ _ h => h) (Or.inl ⟨by rfl, ?_⟩) (Below.refl _ _) ?_
              rotate_left
              · intro wS hSw
                go_simp
                try with_reducible rfl
              try simp only [List.getElem_toArray, List.getElem_cons_zero, List.getElem_cons_succ, Act.put, List.setIfInBounds_toArray, List.set_cons_zero, List.set_cons_succ]
              refine wpAnyH_take (i := 16) (v := ?_) rfl (by kernel_rfl) (by kernel_rfl) (by kernel_rfl) (fun _ _ _ h => h) (Or.inl ⟨by rfl, ?_⟩) (Below.refl _ _) ?_
              rotate_left
              · intro wS hSw
                go_simp
                try with_reducible rfl
              try simp only [List.getElem_toArray, List.getElem_cons_zero, List.getElem_cons_succ, Act.put, List.setIfInBounds_toArray, List.set_cons_zero, List.set_cons_succ]
              refine wpAnyH_done (by kernel_rfl) ?_ _
              have HFO := Lib.hid (refFold3 d HDL.out (some adk) kK bK (some adr) kr rb (w6.drewN 1) w6.heap.size w6.heap.size (HKR.out.drewN 1) (HRR2.out.drewN 1) HHKL.out HHOL.out (Nat.le_refl _) (Nat.le_refl _) (by omega) (by omega))
              go_wp2_with fail
              refine HFO.out.mono ?_
              rintro e w7 ⟨A7, n7, c7, rfl, hn7, ho7, hb7⟩
              obtain rfl : c = n7 := by rw [← hn7, foB_length, HHOL.out]
              have HJ7 : Hid (RrI w r c A n k q (some adK) c' L A7 c7 (Lin.redF ((bsL L).take (t + 1)) row0) w7) := Lib.hid (by
                rw [HN.out]
                exact ⟨HJ.out.rk.via ((below_drewN (Below.refl _ _) 1).trans hb7), own_lowerS ho7 hsz2⟩)
              clear ho7 hb7 hn7 HFO
              go_wp2
              go_roundw
              case rel => exact ⟨t + 1, A7, c7, rfl, by go_num, htq, HJ7⟩
              case measure => simp [intOf]; omega
        · obtain rfl : t = q := by omega
          have hfull : (bsL L).take t = bsL L := List.take_of_length_le (by rw [bsL_length, HQL.out]; exact Nat.le_refl _)
          rw [hfull] at hJ
          have hol : (Lin.redF (bsL L) row0).length = c := by simpa using own_len hJ.out.own
          have HF0 := Lib.hid (refFirst4 Ar c kr _ wr wr.heap.size (Rd.of_own hJ.out.own) hol (by omega))
          have HKQ : Hid (fstZ (Lin.redF (bsL L) row0) < 0 → Lin.keptF c bs (p + 1) = bsL L) := Lib.hid fun hn => by
            rw [HKF.out]
            unfold Lin.keepF
            rw [if_pos (fstZ_neg.1 hn)]
          have HKP : Hid (¬ fstZ (Lin.redF (bsL L) row0) < 0 → Lin.keptF c bs (p + 1) = bsL L ++ [Lin.redF (bsL L) row0]) := Lib.hid fun hn => by
            rw [HKF.out]
            unfold Lin.keepF
            rw [if_neg (fun e => hn (fstZ_neg.2 e))]
          have HJ := Lib.hid hJ.out
          generalize Lin.redF (bsL L) row0 = rb at *
          clear hfull hJ htq HKF
          by_cases hneg : fstZ rb < 0
          · have HN := Lib.hid (HKQ.out hneg)
            generalize fstZ rb = z at *
            go_wp2_with fail
            refine HF0.out.mono ?_
            rintro e w6 ⟨rfl, rfl⟩
            go_wp2
            exact ⟨⟨p + 1, t, A', c', L, rfl, by go_num, hlt, Lib.hid HJ.out.rk, Lib.hid HN.out.symm⟩, by simp [intOf]; omega⟩
          · have HN := Lib.hid (HKP.out hneg)
            have hpos : 0 ≤ fstZ rb := by omega
            generalize fstZ rb = z at *
            have hsz2 := HJ.out.rk.below.size
            have HPU := Lib.hid fun w4 A4 c4 ho4 hg4 => HJ.out.rk.push (x := ⟨Ar, c, kr, rb⟩) (w4 := w4) HJ.out.own rfl (A4 := A4) (c4 := c4) ho4 hg4
            have HRO := Lib.hid HJ.out.rk.own
            clear hneg
            go_wp2_with fail
            refine HF0.out.mono ?_
            rintro e w6 ⟨rfl, rfl⟩
            go_wp2_with (at_builtin; go_loud (refine appR _ rfl (.tmp 69) (.tmp 71) rfl w.heap.size A' t c' (L.map RowB.v) rfl (own_belowS HRO.out ((Below.refl _ _).alloc (Nat.le_refl _) _)) _ (some ⟨w6.heap.size, 0, none⟩) 1 1 [.slice Ar c kr] rfl rfl (Rd.new w6 _ _ _ rfl) (one_rows (L := [⟨Ar, c, kr, []⟩])) (by omega) (by simp; omega) ?_; intro A4 c4 w4 ho4 hg4 hb4; have HPP := Lib.hid (HPU.out w4 A4 c4 ho4 hg4); clear ho4 hg4 hb4))
            exact ⟨⟨p + 1, t + 1, A4, c4, _, rfl, by go_num, hlt, HPP, Lib.hid (by rw [HN.out]; simp [bsL])⟩, by simp [intOf]; omega⟩
    · obtain rfl : p = r := by omega
      have HE : Hid (q = (Lin.keptF c bs p).length) := Lib.hid (by rw [← hL.out, bsL_length, HQL.out])
      have m0 := hI.out.mat.cell 0
      unfold mv at m0
      simp only [List.getElem?_toArray, List.getElem?_cons_zero, List.getElem?_cons_succ] at m0
      clear hlt
      go_wp2
      go_ret
      exact ⟨ret_eq (nat_eq HE.out), hI.out.below⟩
end Cib
