/- What the law NumBack does. -/
import Derived.Test.YtpjmngmhpckobaaNumB
set_option linter.unusedVariables false
set_option linter.unusedSimpArgs false
set_option maxRecDepth 40000
namespace Go.Proofs.Ytpjmngmhpckobaa
open Go.RowKit Cib
theorem get_at (b r : List UInt8) (n wd : Nat) (h1 : 1 ≤ wd) (h8 : wd ≤ 8) : getP (b ++ (Num.leB n wd ++ r)) (b.length : Int) (wd : Int) = (n % 256 ^ wd, 0) := by
  unfold getP
  rw [if_neg (by simp [Num.leB_length]; omega), if_neg (by simp [Num.leB_length]; omega), Int.toNat_natCast, Int.toNat_natCast, List.drop_left]
  have e : (Num.leB n wd ++ r).take wd = Num.leB n wd := by
    have := List.take_left (l₁ := Num.leB n wd) (l₂ := r)
    rwa [Num.leB_length] at this
  rw [e, Num.leN_leB]

set_option maxHeartbeats 1000000 in
theorem lawBack (A : Option Addr) (cap : Nat) (l : List Num.It) (w : World) (h : Rd w w.heap.size A (l.map itRow).flatten) (hl : l.length ≤ maxLen)
    (hs : ∀ x ∈ l, x.s.size ≤ maxLen ∧ x.n < 18446744073709551616 ∧ -9223372036854775808 ≤ x.width ∧ x.width ≤ 9223372036854775807) :
    Calls Try.prog 7 #[.slice A l.length cap] w fun e w' => e = .returned (.bool true) ∧ Below w.heap.size w w' := by
  have hm := hl
  unfold maxLen at hm
  have hfew := lawFew A cap l w _ h rfl hl (fun x hx => (hs x hx).1)
  have HS := Lib.hid hs
  clear hs
  rcases hf : Num.few l with _ | _
  · rw [hf] at hfew
    have HF := Lib.hid hfew
    clear hfew hf
    go_enter Try.func7, Try.ntmps7
    go_wp2_with fail
    refine HF.out.mono ?_
    rintro _ _ ⟨rfl, rfl⟩
    go_wp2_with fail
    refine (read _).mono ?_
    rintro e w' ⟨rfl, hb⟩
    go_wp2_with fail
    go_ret
    exact ⟨rfl, hb⟩
  · rw [hf] at hfew
    have HF := Lib.hid hfew
    obtain ⟨h100, hsz⟩ := Num.few_size l hf
    have HSZ := Lib.hid hsz
    have hlen := fun k => Num.encTo_len l (fun x hx => by have := hsz x hx; omega) k
    have HLEN := Lib.hid hlen
    clear hfew hf hsz hlen
    go_enter Try.func7, Try.ntmps7
    go_wp2_with fail
    refine HF.out.mono ?_
    rintro _ _ ⟨rfl, rfl⟩
    go_wp2_with fail
    go_loopw [3, 4, 5] (fun b i _ wr => ∃ k m A2 c2, k ≤ l.length ∧ i = .int .i64 (k : Nat) ∧ Below w.heap.size w wr ∧ b = .slice A2 m c2 ∧ m ≤ c2 ∧ c2 ≤ maxLen ∧ Hid ((Num.encTo l k).length = m) ∧ Rd wr wr.heap.size A2 ((Num.encTo l k).map bv)) (fun _ i _ _ => l.length - (intOf i).toNat)
    case atStart => exact ⟨0, 0, none, 0, Nat.zero_le _, rfl, Below.refl _ _, rfl, Nat.le_refl _, Nat.zero_le _, rfl, Rd.nil _ _ _⟩
    case round =>
      obtain ⟨k, m, A2, c2, hk, rfl, hb, rfl, hmc, hcm, hml, hr⟩ := hrel
      have hsz := hb.size
      by_cases hlt : k < l.length
      · obtain ⟨bb, off, rfl, _, hc0, hc1, hc2⟩ := it_at (h.below hb) hlt
        obtain ⟨_, hn64, hw0, hw1⟩ := HS.out _ (List.getElem_mem hlt)
        have hz := HSZ.out _ (List.getElem_mem hlt)
        have hm1 : m ≤ 301000 := by rw [← hml.out]; have := HLEN.out k; omega
        have HE : Hid (Num.encTo l (k + 1) = Num.enc1 (Num.encTo l k) l[k]) := by
          unfold Hid
          rw [Num.encTo]
          simp [List.getD, List.getElem?_eq_getElem hlt]
        generalize l[k] = x at *
        generalize Num.encTo l k = bs at *
        have HN := Lib.hid hn64
        clear hn64
        by_cases hc : 1 ≤ x.width ∧ x.width ≤ 8
        · have HP : Hid (Num.put bs x.width x.n = Num.enc1 bs x) := by
            unfold Hid Num.put Num.enc1
            rw [if_pos hc, if_pos hc]
          obtain ⟨hc1', hc8⟩ := hc
          go_wp2_with (go_at_call 14; refine (numPut A2 c2 bs x.width x.n _ _ (hr.alloc (Nat.le_refl _) _) hml.out (by simp) ⟨hw0, hw1⟩ HN.out (by omega)).mono ?_; rintro _ w4 ⟨A4, n4, c4, rfl, hn4, ho4, hb4⟩)
          rw [HP.out] at hn4 ho4
          have HN4 := Lib.hid hn4
          exact ⟨⟨k + 1, n4, A4, c4, by omega, by go_num, (hb.alloc hsz _).via hb4, rfl, (own_cap ho4).1, (own_cap ho4).2, by unfold Hid; rw [HE.out]; exact HN4.out, by rw [HE.out]; exact Rd.of_own ho4⟩, by simp [intOf]; omega⟩
        · by_cases hw : x.width = 0
          · have HP : Hid (bs ++ Num.vb x.n = Num.enc1 bs x) := by
              unfold Hid Num.enc1
              rw [if_neg hc, if_pos hw]
            have hw' : (x.width == 0) = true := by rw [beq_iff_eq]; exact hw
            have hw1' : ¬ 1 ≤ x.width := by omega
            clear hc hw
            go_wp2_with (go_at_call 12; refine (numPutVar A2 c2 bs x.n _ _ (hr.alloc (Nat.le_refl _) _) hml.out (by simp) HN.out (by omega)).mono ?_; rintro _ w4 ⟨A4, n4, c4, rfl, hn4, ho4, hb4⟩)
            rw [HP.out] at hn4 ho4
            have HN4 := Lib.hid hn4
            exact ⟨⟨k + 1, n4, A4, c4, by omega, by go_num, (hb.alloc hsz _).via hb4, rfl, (own_cap ho4).1, (own_cap ho4).2, by unfold Hid; rw [HE.out]; exact HN4.out, by rw [HE.out]; exact Rd.of_own ho4⟩, by simp [intOf]; omega⟩
          · have HP : Hid (Num.text bs x.s.data.toList = Num.enc1 bs x) := by
              have hl : x.s.data.toList.length = x.s.size := Array.length_toList
              unfold Hid Num.enc1 Num.text
              rw [if_neg hc, if_neg hw, hl]
              rfl
            have hw' : (x.width == 0) = false := by rw [beq_eq_false_iff_ne]; exact hw
            by_cases h1w : 1 ≤ x.width
            · have h8w : ¬ x.width ≤ 8 := by omega
              clear hc hw
              go_wp2_with (go_at_call 21; refine (numPutText A2 c2 bs x.s _ _ (hr.alloc (Nat.le_refl _) _) hml.out (by simp) (by omega)).mono ?_; rintro _ w4 ⟨A4, n4, c4, rfl, hn4, ho4, hb4⟩)
              rw [HP.out] at hn4 ho4
              have HN4 := Lib.hid hn4
              exact ⟨⟨k + 1, n4, A4, c4, by omega, by go_num, (hb.alloc hsz _).via hb4, rfl, (own_cap ho4).1, (own_cap ho4).2, by unfold Hid; rw [HE.out]; exact HN4.out, by rw [HE.out]; exact Rd.of_own ho4⟩, by simp [intOf]; omega⟩
            · clear hc hw
              go_wp2_with (go_at_call 21; refine (numPutText A2 c2 bs x.s _ _ (hr.alloc (Nat.le_refl _) _) hml.out (by simp) (by omega)).mono ?_; rintro _ w4 ⟨A4, n4, c4, rfl, hn4, ho4, hb4⟩)
              rw [HP.out] at hn4 ho4
              have HN4 := Lib.hid hn4
              exact ⟨⟨k + 1, n4, A4, c4, by omega, by go_num, (hb.alloc hsz _).via hb4, rfl, (own_cap ho4).1, (own_cap ho4).2, by unfold Hid; rw [HE.out]; exact HN4.out, by rw [HE.out]; exact Rd.of_own ho4⟩, by simp [intOf]; omega⟩
      · obtain rfl : k = l.length := by omega
        have hm1 : m ≤ 301000 := by rw [← hml.out]; have := HLEN.out l.length; omega
        have hat := fun k (hk : k < l.length) => Num.encTo_at l k hk
        have HAT := Lib.hid hat
        clear hat hsz
        have hbr := hb
        have hrr := hr
        have hall : Hid (Num.encTo l l.length = Num.encTo l l.length) := rfl
        clear hb hr
        obtain ⟨wz, rfl⟩ : ∃ x : World, x = wr := ⟨_, rfl⟩
        go_wp2_with fail
        go_loopw [6, 7, 8, 9, 10, 11, 12, 13, 14, 15, 16] (fun p i _ _ _ _ _ _ _ _ _ wr => ∃ k q, k ≤ l.length ∧ i = .int .i64 (k : Nat) ∧ Below wz.heap.size wz wr ∧ p = .int .i64 (q : Nat) ∧ q ≤ m ∧ Hid ((Num.encTo l k).length = q)) (fun _ i _ _ _ _ _ _ _ _ _ _ => l.length - (intOf i).toNat)
        case atStart => exact ⟨0, 0, Nat.zero_le _, rfl, Below.refl _ _, rfl, Nat.zero_le _, rfl⟩
        case round =>
          obtain ⟨k, q, hk2, rfl, hb, rfl, hqm, hq⟩ := hrel
          have hsz := hb.size
          by_cases hlt2 : k < l.length
          · obtain ⟨bb, off, rfl, _, hc0, hc1, hc2⟩ := it_at ((h.below hbr).below (hb.mono hbr.size)) hlt2
            obtain ⟨_, hn64, hw0, hw1⟩ := HS.out _ (List.getElem_mem hlt2)
            have hz := HSZ.out _ (List.getElem_mem hlt2)
            obtain ⟨r, hrest⟩ := HAT.out k hlt2
            have hrd := hrr.below hb
            have HE : Hid (Num.encTo l (k + 1) = Num.encTo l k ++ Num.one l[k]) := by
              unfold Hid
              rw [Num.encTo_succ]
              simp [List.getD, List.getElem?_eq_getElem hlt2]
            have hnx : (Num.encTo l (k + 1)).length ≤ m := by
              rw [HE.out, ← hml.out, hrest]
              simp
            have HNX := Lib.hid hnx
            have HR := Lib.hid hrest
            clear hnx hrest
            generalize l[k] = x at *
            generalize Num.encTo l l.length = all at *
            have HN := Lib.hid hn64
            clear hn64
            rcases x with ⟨xw, xn, xs⟩
            simp only at hc0 hc1 hc2 hw0 hw1 hz
            have HN' : Hid (xn < 18446744073709551616) := HN
            clear HN
            have hrl := fun (W : World) (hw : Below wz.heap.size wz W) => hrr.below hw
            by_cases hc : 1 ≤ xw ∧ xw ≤ 8
            · obtain ⟨wd, rfl⟩ := Int.eq_ofNat_of_zero_le (by omega : 0 ≤ xw)
              have ho : Num.one ⟨(wd : Int), xn, xs⟩ = Num.leB xn wd := by
                unfold Num.one Num.enc1
                rw [if_pos hc]
                rfl
              have HG : Hid (getP all (q : Int) (wd : Int) = (xn % 256 ^ wd, 0)) := by
                unfold Hid
                rw [HR.out, ho, ← hq.out]
                exact get_at _ _ _ _ (by omega) (by omega)
              have HQ : Hid ((Num.encTo l (k + 1)).length = q + wd) := by
                unfold Hid
                rw [HE.out, List.length_append, hq.out, ho, Num.leB_length]
              have hqm2 : q + wd ≤ m := by rw [← HQ.out]; exact HNX.out
              have hget := fun (W : World) (hw : Below wz.heap.size wz W) => (numGet A2 c2 all (q : Int) (wd : Int) W _ (hrl W hw) hml.out hmc hcm (by omega) (by omega)).mono fun e w' hh => (⟨hh.1.trans (by unfold getV; rw [HG.out]; rfl), hh.2⟩ : e = .returned (.tuple #[.int .u64 ((xn % 256 ^ wd : Nat) : Int), .int .i64 0]) ∧ W = w')
              have hlow := fun W : World => lawLow xn wd W (by omega) (by omega) HN'.out
              have HGE := Lib.hid hget
              have HLO := Lib.hid hlow
              obtain ⟨hc1', hc8⟩ := hc
              generalize xn % 256 ^ wd = y at *
              clear ho hget hlow hrl HR
              go_wp2_with (first | (go_at_call 15; refine (HGE.out _ (hb.alloc hsz _)).mono ?_; rintro _ _ ⟨rfl, rfl⟩) | (go_at_call 25; refine (HLO.out _).mono ?_; rintro _ _ ⟨rfl, rfl⟩))
              exact ⟨⟨k + 1, q + wd, by omega, by go_num, hb.alloc hsz _, by go_num, by omega, HQ⟩, by simp [intOf]; omega⟩
            · by_cases hw : xw = 0
              · subst hw
                have ho : Num.one ⟨0, xn, xs⟩ = Num.vb xn := rfl
                have HG : Hid (Num.var all (q : Int) = (xn, ((Num.encTo l (k + 1)).length : Int), 0)) := by
                  unfold Hid
                  rw [HE.out, HR.out, ho, ← hq.out]
                  exact Num.var_at _ _ _ HN'.out
                have hget := fun (W : World) (hw : Below wz.heap.size wz W) => (numVar A2 c2 all (q : Int) W _ (hrl W hw) hml.out hmc hcm (by omega)).mono fun e w' hh => (⟨hh.1.trans (by unfold varV; rw [HG.out]; rfl), hh.2⟩ : e = .returned (.tuple #[.int .u64 (xn : Int), .int .i64 ((Num.encTo l (k + 1)).length : Int), .int .i64 0]) ∧ W = w')
                have HGE := Lib.hid hget
                obtain ⟨q2, HQ⟩ : ∃ q2, Hid ((Num.encTo l (k + 1)).length = q2) := ⟨_, rfl⟩
                have hqm2 : q2 ≤ m := by rw [← HQ.out]; exact HNX.out
                clear ho hget hrl HR hc
                go_wp2_with (go_at_call 9; refine (HGE.out _ (hb.alloc hsz _)).mono ?_; rintro _ _ ⟨rfl, rfl⟩; rw [HQ.out])
                exact ⟨⟨k + 1, q2, by omega, by go_num, hb.alloc hsz _, rfl, by omega, HQ⟩, by simp [intOf]; omega⟩
              · have hsl : (Num.bytesOf xs).length = xs.size := Array.length_toList
                have ho : Num.one ⟨xw, xn, xs⟩ = Num.vb (Num.bytesOf xs).length ++ Num.bytesOf xs := by
                  unfold Num.one Num.enc1
                  rw [if_neg hc, if_neg hw, hsl]
                  rfl
                have HG : Hid (Num.part all (q : Int) (xs.size : Int) = (Num.bytesOf xs, ((Num.encTo l (k + 1)).length : Int), 0)) := by
                  unfold Hid
                  rw [HE.out, HR.out, ho, ← hq.out, ← hsl]
                  exact Num.part_at _ _ _ (by rw [hsl]; omega)
                have hget := fun (W : World) (hw : Below wz.heap.size wz W) => (numText A2 c2 all (q : Int) (xs.size : Int) W _ (hrl W hw) hml.out hmc hcm (by omega) (by omega)).mono fun e w' hh => (⟨hh.1.trans (by rw [HG.out]; rfl), hh.2⟩ : e = .returned (.tuple #[.string xs, .int .i64 ((Num.encTo l (k + 1)).length : Int), .int .i64 0]) ∧ W = w')
                have HGE := Lib.hid hget
                obtain ⟨q2, HQ⟩ : ∃ q2, Hid ((Num.encTo l (k + 1)).length = q2) := ⟨_, rfl⟩
                have hqm2 : q2 ≤ m := by rw [← HQ.out]; exact HNX.out
                have hw' : (xw == 0) = false := by rw [beq_eq_false_iff_ne]; exact hw
                by_cases h1w : 1 ≤ xw
                · have h8w : ¬ xw ≤ 8 := by omega
                  clear ho hget hrl HR hc hw hsl
                  go_wp2_with (go_at_call 18; refine (HGE.out _ (hb.alloc hsz _)).mono ?_; rintro _ _ ⟨rfl, rfl⟩; rw [HQ.out])
                  exact ⟨⟨k + 1, q2, by omega, by go_num, hb.alloc hsz _, rfl, by omega, HQ⟩, by simp [intOf]; omega⟩
                · clear ho hget hrl HR hc hw hsl
                  go_wp2_with (go_at_call 18; refine (HGE.out _ (hb.alloc hsz _)).mono ?_; rintro _ _ ⟨rfl, rfl⟩; rw [HQ.out])
                  exact ⟨⟨k + 1, q2, by omega, by go_num, hb.alloc hsz _, rfl, by omega, HQ⟩, by simp [intOf]; omega⟩
          · obtain rfl : k = l.length := by omega
            have hqq : q = m := by rw [← hq.out]; exact hml.out
            subst hqq
            go_wp2_with (go_at_call 8; refine (read _).mono ?_; rintro _ w9 ⟨rfl, hb9⟩)
            go_ret
            exact ⟨rfl, (hbr.via hb).via hb9⟩
end Go.Proofs.Ytpjmngmhpckobaa
