/- The document's factors, rows, shards. -/
import Derived.Test.YtmfilmkdaokbbaaCodA
import Derived.Test.YtmfilmkdaokbbaaFldE
set_option linter.unusedVariables false
set_option linter.unusedSimpArgs false
set_option maxRecDepth 40000
namespace Cib
open Go Go.RowKit Go.Proofs
theorem refFactor5 (k i j : Nat) (hi : i < 256) (hj : j < 256) (hk : k ≤ 9223372036854775807) (w : World) : Calls Try.prog 33 #[.int .i64 (k : Int), .int .i64 (i : Int), .int .i64 (j : Int)] w fun e w' => e = .returned (.int .u8 (Cod.fac k i j : Nat)) ∧ w' = w := by
  by_cases h1 : i < k
  · by_cases h2 : i = j
    · subst h2
      rw [show Cod.fac k i i = 1 from by simp [Cod.fac, h1]]
      go_enter Try.func33, Try.ntmps33
      go_wp2
      go_ret
      exact ⟨rfl, rfl⟩
    · rw [show Cod.fac k i j = 0 from by simp [Cod.fac, h1, h2]]
      have hne : ((i : Int) == (j : Int)) = false := by simp; omega
      go_enter Try.func33, Try.ntmps33
      go_wp2
      go_ret
      exact ⟨rfl, rfl⟩
  · rw [show Cod.fac k i j = (divA 1 (i ^^^ j)).1 from by simp [Cod.fac, h1]]
    have hx := u8_xor_nat _ _ hi hj
    have hlt := Fld.xor_lt hi hj
    have hw1 : IntKind.u8.wrap (i : Int) = (i : Int) := by rw [IntKind.wrap_u8]; omega
    have hw2 : IntKind.u8.wrap (j : Int) = (j : Int) := by rw [IntKind.wrap_u8]; omega
    generalize i ^^^ j = z at *
    have HD := Lib.hid (refDiv3 1 z (by decide) hlt w)
    obtain ⟨d, hd⟩ : ∃ d, Hid (divA 1 z = d) := ⟨_, rfl⟩
    rw [hd.out] at HD ⊢
    obtain ⟨d1, d2⟩ := d
    unfold pairV at HD
    simp only at HD ⊢
    go_enter Try.func33, Try.ntmps33
    go_wp2_with (go_at_call 60; refine HD.out.mono ?_; rintro e w' ⟨rfl, rfl⟩)
    go_ret
    exact ⟨rfl, rfl⟩
theorem Cod.facRow_take (k i q : Nat) (h : q < k) : (Cod.facRow k i).take (q + 1) = (Cod.facRow k i).take q ++ [UInt8.ofNat (Cod.fac k i q)] := by
  rw [List.take_succ_eq_append_getElem (by rw [Cod.facRow_length]; exact h)]
  simp [Cod.facRow]
theorem Cod.shard_take (k : Nat) (D : List (List UInt8)) (i : Nat) {q : Nat} (h : q < Cod.len0 D) : (Cod.shard k D i).take (q + 1) = (Cod.shard k D i).take q ++ [UInt8.ofNat (Cod.shB k D i q D.length)] := by
  rw [List.take_succ_eq_append_getElem (by rw [Cod.shard_length]; exact h)]
  simp [Cod.shard]
theorem Cod.len0_of' {L : List RowB} (h : 0 < L.length) (hl : ∀ r ∈ L, r.bs.length = r.n) : Cod.len0 (bss L) = L[0].n := by
  rw [Cod.len0_eq (by simpa [bss] using h)]
  have := hl _ (List.getElem_mem h)
  simpa [bss] using this
set_option maxHeartbeats 1600000 in
theorem refShard5 (L : List RowB) (B : Nat) (A2 : Option Addr) (n c2 i : Nat) (w : World) (hr : Rd w B A2 (L.map RowB.v)) (hR : RowsAt w B L) (hB : B ≤ w.heap.size) (hn : L.length = n) (hn1 : 1 ≤ n) (hn2 : n ≤ 255) (hev : Cod.evn (bss L) = true) (hm : ∀ r ∈ L, r.n ≤ 1000000000) (hi : i < 256) :
    Calls Try.prog 43 #[.slice A2 n c2, .int .i64 (i : Int)] w (NewB (Cod.shard n (bss L) i) w) := by
  have h0l : 0 < L.length := by omega
  obtain ⟨ad, rfl, hab, hcell0⟩ := hr.row h0l
  rw [addr_add_zero, ← Cod.len0_of' h0l hR.lens] at hcell0
  have hWm : Cod.len0 (bss L) ≤ 1000000000 := by rw [Cod.len0_of' h0l hR.lens]; exact hm _ (List.getElem_mem h0l)
  have HDL : Hid ((bss L).length = n) := (show _ = _ by simpa [bss] using hn)
  have HST : Hid (∀ q, q < Cod.len0 (bss L) → (Cod.shard n (bss L) i).take (q + 1) = (Cod.shard n (bss L) i).take q ++ [UInt8.ofNat (Cod.shB n (bss L) i q n)]) := (show ∀ q, _ by intro q hq; have := Cod.shard_take n (bss L) i hq; rw [HDL.out] at this; exact this)
  have HEV : Hid (∀ j (h : j < L.length), L[j].n = Cod.len0 (bss L)) := (show ∀ j h, _ by
    intro j h
    rw [← hR.lens _ (List.getElem_mem h)]
    have := Cod.evn_get hev (j := j) (by simpa [bss] using h)
    simpa [bss] using this)
  have HSL : Hid ((Cod.shard n (bss L) i).length = Cod.len0 (bss L)) := (show _ = _ from Cod.shard_length _ _ _)
  generalize Cod.len0 (bss L) = W at *
  obtain ⟨S, hS⟩ : ∃ S, Hid (Cod.shard n (bss L) i = S) := ⟨_, rfl⟩
  rw [hS.out] at HST HSL ⊢
  generalize L[0].A = A0 at hcell0
  generalize L[0].c = c0 at hcell0
  have HR := Lib.hid hr
  have HRR := Lib.hid hR
  have HN := Lib.hid hn
  have hbl := block_lt_of_cell hcell0
  have hn0 : 0 < n := hn1
  clear hr hR hn hev hm h0l hS
  go_enter Try.func43, Try.ntmps43
  go_wp2
  go_loopw [5, 6, 7, 8] (fun l at_ _ _ wr => ∃ (q : Nat) (A : Option Addr) (c : Nat), at_ = .int .i64 q ∧ q ≤ W ∧ l = .slice A q c ∧ Hid (wr.ownsRow w.heap.size 5 1 (.slice A q c) q ((S.take q).map bv)) ∧ Hid (Below w.heap.size w wr)) (fun _ at_ _ _ _ => W - (intOf at_).toNat)
  case atStart => exact ⟨0, none, 0, rfl, Nat.zero_le _, rfl, World.ownsRow_nil _ _ _ _, Below.refl _ _⟩
  case round =>
    obtain ⟨q, A, c, rfl, hq, rfl, HO, HB⟩ := hrel
    have hc0r := (HB.out.cell (p := ad) hbl).trans hcell0
    by_cases hlt : q < W
    · have HNX := Lib.hid (HST.out q hlt)
      obtain ⟨z, hz, hzn⟩ := byte_mk (Cod.shB_lt n (bss L) i q n)
      rw [hz.out] at HNX
      have hs := HB.out.size
      obtain ⟨w1, hw1⟩ : ∃ w1, w1 = wr := ⟨_, rfl⟩
      rw [← hw1] at HO HB hs
      have HZN := Lib.hid hzn
      clear hz hzn
      go_wp2
      go_loopw [7, 8] (fun x j w2 => ∃ p : Nat, j = .int .i64 p ∧ p ≤ n ∧ x = .int .u8 (Cod.shB n (bss L) i q p : Nat) ∧ Hid (Below w1.heap.size w1 w2)) (fun _ j _ => n - (intOf j).toNat)
      case atStart => exact ⟨0, rfl, Nat.zero_le _, rfl, by rw [hw1]; exact Below.refl _ _⟩
      case round =>
        clear hw1 hc0r
        obtain ⟨p, rfl, hp, rfl, HB2⟩ := hrel
        have HBW := Lib.hid (HB.out.via HB2.out)
        by_cases hlp : p < n
        · have hpl : p < L.length := by rw [HN.out]; exact hlp
          obtain ⟨ad', e0, hab', hcell⟩ := (HR.out.below (HBW.out.mono hB)).row hpl
          injection e0 with e0
          subst e0
          have hRq := (HRR.out.get hpl).below (HBW.out.mono hB)
          have hWn := HEV.out p hpl
          have hsb : Hid ((bss L).getD p [] = L[p].bs) := (show _ = _ from bss_get hpl)
          have hrd := hRq.rd
          have hlen := hRq.len
          clear hRq
          generalize L[p] = r at *
          obtain ⟨rA, rn, rc, bs⟩ := r
          simp only at hcell hWn hsb hrd hlen
          subst hWn
          have hqb : q < bs.length := by omega
          obtain ⟨rad, rfl, _, hrc⟩ := hrd.byte hqb
          have hd := bs[q].toNat_lt
          have hx1 := Cod.shB_lt n (bss L) i q p
          have hf1 := Cod.fac_lt n i p
          have hg1 := Fld.gmul_lt (b := bs[q].toNat) hf1
          have HX : Hid (bits .xor .u8 (Cod.shB n (bss L) i q p : Int) (Fld.gmul (Cod.fac n i p) bs[q].toNat : Int) = (Cod.shB n (bss L) i q (p + 1) : Int)) := by
            show _ = _
            rw [u8_xor_nat _ _ hx1 hg1, Cod.shB, hsb.out]
            simp [List.getD, hqb]
          have HF := fun V => Lib.hid ((refFactor5 n i p hi (by omega) (by omega) V).mono (fun _ _ ⟨he, hw⟩ => (⟨he, 0, hw⟩ : _ ∧ ∃ n, _ = V.drewN n)))
          have HM := fun V => Lib.hid ((refMul3 (Cod.fac n i p) bs[q].toNat hf1 hd V).mono (fun _ _ ⟨he, hw⟩ => (⟨he, 0, hw.symm⟩ : _ ∧ ∃ n, _ = V.drewN n)))
          have HB3 := Lib.hid (fun N => below_drewN HB2.out N)
          clear hsb hrd hlen HB2 HBW
          go_wp2
          go_quiet (first | (go_at_call 33; refine Calls.quiet_of (HF _).out) | (go_at_call 59; refine Calls.quiet_of (HM _).out))
          go_wp2
          exact ⟨⟨p + 1, by go_num, hlp, int_eq HX.out, HB3.out _⟩, by simp [intOf]; omega⟩
        · obtain rfl : p = n := by omega
          have HO2 := Lib.hid (own_via HO.out HB2.out)
          have hs2 := HBW.out.size
          rw [HZN.out]
          go_wp2_with (at_builtin; refine appB _ rfl (.tmp 43) (.tmp 45) rfl w.heap.size A q c ((S.take q).map bv) rfl (HO2.out.alloc _) _ (some ⟨wr.heap.size, 0, none⟩) 1 1 [bv z] rfl rfl (Rd.new wr _ _ _ rfl) one_byte (by omega) (by simp; omega) ?_; intro A1 c1' w3 ho1 hg1 hb1)
          go_roundw
          case rel => exact ⟨q + 1, A1, c1', by go_num, hlt, rfl, (show World.ownsRow _ _ _ _ _ _ _ by rw [HNX.out, List.map_append]; exact ho1), (HBW.out.alloc hs2 _).trans hb1⟩
          case measure => simp [intOf]; omega
    · obtain rfl : q = W := by omega
      have HT : Hid (S.take q = S) := (show _ = _ from List.take_of_length_le (by rw [HSL.out]; exact Nat.le_refl _))
      rw [HT.out] at HO
      go_wp2
      go_ret
      exact ⟨A, q, c, rfl, HSL.out, HO.out, HB.out⟩
end Cib
