/- The law BitmapLeast. -/
import Derived.Test.YthdanbpciifieaaBmpL1
import Derived.Test.YthdanbpciifieaaBmpQ
set_option linter.unusedVariables false
set_option linter.unusedSimpArgs false
set_option maxRecDepth 20000
namespace Bmp
theorem has_get {bs : List Bool} {x : Nat} {b : Bool} (h : bs.getD x false = b) (hx : x < bs.length) : has bs (x : Int) = b := by
  unfold has
  rw [Int.toNat_natCast, h, decide_eq_true ⟨Int.natCast_nonneg _, by omega⟩, Bool.true_and]
theorem set_get {bs : List Bool} {x : Nat} (h : bs.getD x false = false) (hx : x < bs.length) : set bs (x : Int) true = (true, bs.set x true) := by
  unfold set
  rw [if_pos ⟨Int.natCast_nonneg _, by omega, by rw [has_get h hx]; decide⟩, Int.toNat_natCast]
end Bmp
namespace Cib
open Go Go.RowKit Go.Proofs
section
variable {w w' : World} {base B g n : Nat} {bs : List Bool} {A : Option Addr} {c : Nat}
theorem own_keep {e : TypeId} {v : Value} {xs : List Value} (h : w.ownsRow B e 1 v n xs) (hk : ∀ k, B ≤ k → k < w.heap.size → w'.heap[k]? = w.heap[k]?) : w'.ownsRow B e 1 v n xs := by
  refine ⟨h.1, ?_⟩
  rcases h.2 with h0 | ⟨g, cap, cur, hv, h1, h2, h3⟩
  · exact .inl h0
  · exact .inr ⟨g, cap, cur, hv, h1, (hk g h1 (Blk.lt (t := e) (cs := cur) h2)).trans h2, h3⟩
theorem Mp.keep (h : Mp w B g bs A c) (hk : ∀ k, B ≤ k → k < w.heap.size → w'.heap[k]? = w.heap[k]?) : Mp w' B g bs A c :=
  ⟨(hk g h.hg h.blk.lt).trans h.blk, own_keep h.own hk, h.n, h.hg⟩
theorem Mp.ablt (h : Mp w base g bs A c) : ∀ b, A = some ⟨b, 0, none⟩ → b < w.heap.size := by
  rintro b rfl
  rcases h.own.2 with ⟨h0, _⟩ | ⟨g', cap, cur, hv, _, h2, _⟩
  · cases h0
  · injection hv with e1
    injection e1 with e1
    injection e1 with e1
    subst e1
    exact Blk.lt (t := 50) (cs := cur) h2
end
set_option maxHeartbeats 2000000 in
theorem lawLeast (n many : Int) (A : Option Addr) (cap : Nat) (xs : List Int) (w : World) (h : Rd w w.heap.size A (xs.map (Value.int .i64))) (hl : xs.length ≤ maxLen) (hf : -9223372036854775808 ≤ many ∧ many ≤ 9223372036854775807) :
    Calls Try.prog 4 #[.int .i64 n, .slice A xs.length cap, .int .i64 many] w fun e w' => e = .returned (.bool true) ∧ Below w.heap.size w w' := by
  have hlm := hl
  unfold maxLen at hlm
  have HT := Lib.hid (fun W => takes W)
  by_cases hg : 0 ≤ n ∧ n ≤ 300 ∧ xs.length ≤ 300
  · obtain ⟨g1, g2, g3⟩ := hg
    obtain ⟨n, rfl⟩ : ∃ k : Nat, n = (k : Int) := ⟨n.toNat, by omega⟩
    have HN := Lib.hid (bmNew n (by omega) w)
    have HRD := Lib.hid h
    clear h
    go_enter Try.func4, Try.ntmps4
    go_wp2_with fail
    refine HN.out.mono ?_
    rintro e w1 ⟨g, A1, c1, rfl, hm1, hb1, hg1⟩
    clear HN
    have hle : (List.replicate n false).length = n := List.length_replicate
    go_wp2
    go_loopw [8] (fun x wr => ∃ k : Nat, k ≤ xs.length ∧ x = .int .i64 k ∧ Hid (Mp wr w.heap.size g (Bmp.setAll (List.replicate n false) (xs.take k)) A1 c1) ∧ Below w.heap.size w wr) (fun x _ => xs.length - (intOf x).toNat)
    case atStart => exact ⟨0, Nat.zero_le _, rfl, hm1, hb1⟩
    case round =>
      clear hm1 hb1
      obtain ⟨k, hk, rfl, hM, hb⟩ := hrel
      by_cases hlt : k < xs.length
      · obtain ⟨ad, rfl, hc⟩ := rd_nth (HRD.out.below hb) (k := k) (by simpa using hlt)
        rw [List.getElem_map] at hc
        have hst := Bmp.setAll_take (List.replicate n false) xs k hlt
        have HS := Lib.hid (bmSet hM.out xs[k] true)
        have HST := Lib.hid hst
        clear hst
        generalize xs[k] = x at *
        go_wp2_with fail
        refine HS.out.mono ?_
        rintro e w2 ⟨rfl, hm2, hb2, _⟩
        rw [← HST.out] at hm2
        go_wp2
        exact ⟨⟨k + 1, hlt, by go_num, hm2, hb.trans hb2⟩, by simp [intOf]; omega⟩
      · obtain rfl : k = xs.length := by omega
        rw [List.take_length] at hM
        have hbl : (Bmp.setAll (List.replicate n false) xs).length = n := by rw [Bmp.setAll_length, hle]
        generalize Bmp.setAll (List.replicate n false) xs = bs at *
        have HBL := Lib.hid hbl
        clear hbl hle hk hlt
        have hab := Lib.hid hM.out.ablt
        go_wp2_with fail
        refine (bmCopy hM.out).mono ?_
        rintro e w2 ⟨g', A', c', rfl, hC2, hb2, hg2⟩
        have hM2 := hM.out.below hb2
        replace hb := hb.via hb2
        have hsz := hb2.size
        clear hM hb2
        go_wp2_with fail
        refine (bmCount hM2).mono ?_
        rintro e w3 ⟨rfl, rfl⟩
        go_wp2_with fail
        refine (bmLeast hM2 many hf.2).mono ?_
        rintro e w4 ⟨A4, n4, c4, rfl, hn4, ho4, hb4⟩
        have hM4 := Lib.hid (hM2.below hb4)
        have hC4 := Lib.hid (hC2.below hb4)
        have ho4' := Lib.hid ho4
        have hz4 := hb4.size
        replace hb := hb.via hb4
        have hcl : bs.count true ≤ n := by rw [← HBL.out]; exact List.count_le_length ..
        have HFL : Hid ((Bmp.free bs 0).length + bs.count true = n) := by (show _ = _; rw [← HBL.out]; exact Bmp.free_length bs 0)
        clear hM2 hC2 hb4 ho4
        by_cases hsmall : many < 1 ∨ many > (n : Int) - (bs.count true : Nat)
        · have hL : n4 = 0 := by
            rw [← hn4]
            unfold Bmp.leastF
            rw [if_pos (by rw [HBL.out]; omega)]
            rfl
          subst hL
          clear hn4 ho4' HFL
          generalize bs.count true = cnt at *
          have hsm : many < 1 ∨ (1 ≤ many ∧ (n : Int) - (cnt : Int) < many) := by omega
          clear hsmall
          rcases hsm with hsm | ⟨hs1, hs2⟩
          all_goals
            go_wp2_with fail
            refine (HT.out _).mono ?_
            rintro e w5 ⟨rfl, hb5⟩
            go_wp2
            go_ret
            exact ⟨rfl, hb.via hb5⟩
        · obtain ⟨p, rfl⟩ : ∃ p : Nat, many = (p : Int) + 1 := ⟨(many - 1).toNat, by omega⟩
          have hLe : Bmp.leastF bs ((p : Int) + 1) = (Bmp.free bs 0).take (p + 1) := by
            unfold Bmp.leastF
            rw [if_neg (by rw [HBL.out]; omega), show ((p : Int) + 1).toNat = p + 1 from by omega]
          rw [hLe] at hn4 ho4'
          have hn4' : n4 = p + 1 := by
            rw [← hn4, List.length_take]
            have := HFL.out
            omega
          subst hn4'
          have HLL := Lib.hid hn4
          have HFREE := Lib.hid (fun (k : Nat) (hk : k < ((Bmp.free bs 0).take (p + 1)).length) => Bmp.least_free (bs := bs) (m := p + 1) hk)
          have HALL := Lib.hid (fun (i k : Nat) (hk : k < ((Bmp.free bs 0).take (p + 1)).length) (hi : i ≤ ((Bmp.free bs 0).take (p + 1))[k]) => Bmp.least_all (bs := bs) (m := p + 1) hk hi)
          have hct := Bmp.least_count (bs := bs) (m := p + 1) (p + 1) (by rw [hn4]; exact Nat.le_refl _)
          rw [List.take_of_length_le (by rw [hn4]; exact Nat.le_refl _)] at hct
          have HCT := Lib.hid hct
          have hbig : ((p : Int) + 1 ≤ (n : Int) - (bs.count true : Nat)) := by omega
          generalize (Bmp.free bs 0).take (p + 1) = L at *
          clear hct hn4 hLe HFL hsmall
          obtain ⟨cnt, hcnt⟩ : ∃ x, Hid (bs.count true = x) := ⟨_, rfl⟩
          rw [hcnt.out] at HCT hbig hcl ⊢
          have hsN := Bmp.setN_length L bs
          go_upto_region 16 with fail
          go_loopw [12] (fun x wq => ∃ k : Nat, k ≤ p + 1 ∧ x = .int .i64 k ∧ Hid (Mp wq w.heap.size g (Bmp.setN bs (L.take k)) A1 c1) ∧ Hid (Mp wq wr.heap.size g' bs A' c') ∧ Hid (wq.ownsRow w3.heap.size 3 1 (.slice A4 (p + 1) c4) (p + 1) (L.map iv)) ∧ Below w.heap.size w wq) (fun x _ => p + 1 - (intOf x).toNat)
          case atStart => exact ⟨0, Nat.zero_le _, rfl, hM4, hC4, ho4', hb⟩
          case round =>
            clear hM4 hC4 ho4' hb
            obtain ⟨k, hk, rfl, hM, hC, hO, hb⟩ := hrel
            by_cases hlt : k < p + 1
            · have hkL : k < L.length := by rw [HLL.out]; exact hlt
              obtain ⟨hx1, hx2⟩ := HFREE.out k hkL
              obtain ⟨ad, rfl, hcx⟩ := rd_int (Rd.of_own hO.out) hkL
              have hxl : L[k] < (Bmp.setN bs (L.take k)).length := by rw [Bmp.setN_length]; exact hx1
              have HHAS := Lib.hid (bmHas hM.out (L[k] : Int))
              rw [Bmp.has_get hx2 hxl] at HHAS
              have HSET := Lib.hid (bmSet hM.out (L[k] : Int) true)
              rw [Bmp.set_get hx2 hxl, ← Bmp.setN_take bs L k hkL] at HSET
              rw [HBL.out] at hx1
              clear hx2 hxl
              generalize L[k] = x at *
              go_wp2_with (go_at_call 11; refine HHAS.out.mono ?_; rintro e w5 ⟨rfl, rfl⟩)
              refine HSET.out.mono ?_
              rintro e w6 ⟨rfl, hm6, hb6, hk6⟩
              have hkc : ∀ j, wr.heap.size ≤ j → j < w5.heap.size → w6.heap[j]? = w5.heap[j]? := fun j h1 h2 => hk6 j h2 fun b hb => by have := hab.out b hb; omega
              have hC6 := Lib.hid (hC.out.keep hkc)
              have hO6 := Lib.hid (own_keep hO.out fun j h1 h2 => hkc j (by omega) h2)
              have hM6 := Lib.hid hm6
              clear hm6 hk6 hkc hM hC hO HSET HHAS hcx
              go_wp2
              exact ⟨⟨k + 1, hlt, by go_num, hM6, hC6, hO6, hb.trans hb6⟩, by simp [intOf]; omega⟩
            · have hkp : k = p + 1 := by omega
              rw [hkp, List.take_of_length_le (by rw [HLL.out]; exact Nat.le_refl _)] at hM
              have hpL : p < L.length := by rw [HLL.out]; exact Nat.lt_succ_self p
              have HA2 := Lib.hid (fun (i : Nat) (hi : i ≤ L[p]) => HALL.out i p hpL hi)
              obtain ⟨ad, rfl, hcp⟩ := rd_int (Rd.of_own hO.out) hpL
              have hx1 := (HFREE.out p hpL).1
              rw [HBL.out] at hx1
              have HM := Lib.hid (fun i : Nat => bmHas hM.out (i : Int))
              have HCM := Lib.hid (bmCount hM.out)
              have HCC := Lib.hid (bmCount hC.out)
              rw [HCT.out] at HCM
              rw [hcnt.out] at HCC
              generalize L[p] = x at *
              clear hkp HFREE hpL hM hC hO hab
              go_upto_region 21 with fail
              clear hk hlt
              go_loopw [13] (fun y wq' => ∃ i : Nat, i ≤ x + 1 ∧ y = .int .i64 i ∧ wq' = wr) (fun y _ => x + 1 - (intOf y).toNat)
              case atStart => exact ⟨0, Nat.zero_le _, rfl, by first | rfl | trivial⟩
              case round =>
                obtain ⟨i, hi, rfl, rfl⟩ := hrel
                by_cases hix : i ≤ x
                · obtain ⟨ha1, ha2⟩ := HA2.out i hix
                  have HH := Lib.hid (HM.out i)
                  rw [Bmp.has_get ha2 (by rw [Bmp.setN_length]; exact ha1)] at HH
                  clear ha1 ha2
                  go_wp2_with fail
                  refine HH.out.mono ?_
                  rintro e w7 ⟨rfl, rfl⟩
                  go_wp2
                  exact ⟨⟨i + 1, by omega, by go_num, by first | rfl | trivial⟩, by simp [intOf]; omega⟩
                · go_wp2_with fail
                  refine HCM.out.mono ?_
                  rintro e w7 ⟨rfl, rfl⟩
                  go_wp2_with fail
                  refine HCC.out.mono ?_
                  rintro e w8 ⟨rfl, rfl⟩
                  go_wp2_with fail
                  refine (HT.out _).mono ?_
                  rintro e w9 ⟨rfl, hb9⟩
                  go_wp2
                  go_ret
                  exact ⟨rfl, hb.via hb9⟩
  · have hgo : n < 0 ∨ (0 ≤ n ∧ 300 < n) ∨ (0 ≤ n ∧ n ≤ 300 ∧ 300 < (xs.length : Int)) := by omega
    clear hg h
    rcases hgo with hgo | ⟨h1, hgo⟩ | ⟨h1, h2, hgo⟩
    all_goals
      go_enter Try.func4, Try.ntmps4
      go_wp2_with fail
      refine (HT.out _).mono ?_
      rintro e w' ⟨rfl, hb⟩
      go_wp2
      go_ret
      exact ⟨rfl, hb⟩
end Cib
