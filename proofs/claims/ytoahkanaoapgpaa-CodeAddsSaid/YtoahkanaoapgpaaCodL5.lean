/- The law CodeAdds. -/
import Derived.Test.YtoahkanaoapgpaaCodL
import Derived.Test.YtoahkanaoapgpaaCodL4
import Derived.Test.YtoahkanaoapgpaaCodI
set_option linter.unusedVariables false
set_option linter.unusedSimpArgs false
set_option maxRecDepth 100000
namespace Cib
open Go Go.RowKit Go.Proofs
/-- Row by row, the sums of two lists of rows: the first p. -/
def Cod.adds (X Y : List (List UInt8)) (p : Nat) : List (List UInt8) := (List.range p).map fun i => addB (X.getD i []) (Y.getD i [])
theorem Cod.adds_next (X Y : List (List UInt8)) (p : Nat) : Cod.adds X Y (p + 1) = Cod.adds X Y p ++ [addB (X.getD p []) (Y.getD p [])] := by simp [Cod.adds, List.range_succ]
theorem Cod.adds_length (X Y : List (List UInt8)) (p : Nat) : (Cod.adds X Y p).length = p := by simp [Cod.adds]
theorem xor_swap (a b c d : Nat) : (a ^^^ b) ^^^ (c ^^^ d) = (a ^^^ c) ^^^ (b ^^^ d) := by
  rw [Nat.xor_assoc, Nat.xor_assoc]
  congr 1
  rw [← Nat.xor_assoc, Nat.xor_comm b c, Nat.xor_assoc]
theorem addB_getD (a b : List UInt8) (q : Nat) (h1 : q < a.length) (h2 : q < b.length) : ((addB a b).getD q 0).toNat = (a.getD q 0).toNat ^^^ (b.getD q 0).toNat := by
  have h : q < (addB a b).length := by rw [addB_length]; omega
  rw [List.getD_eq_getElem?_getD, List.getElem?_eq_getElem h, List.getD_eq_getElem?_getD, List.getElem?_eq_getElem h1, List.getD_eq_getElem?_getD, List.getElem?_eq_getElem h2]
  simp only [Option.getD_some, addB, List.getElem_zipWith]
  exact Cod.ofNat_toNat (Fld.xor_lt (UInt8.toNat_lt _) (UInt8.toNat_lt _))
theorem shB_add (k : Nat) (X Y : List (List UInt8)) (i q n : Nat) (hX : ∀ j, j < n → q < (X.getD j []).length) (hY : ∀ j, j < n → q < (Y.getD j []).length) : ∀ p, p ≤ n → Cod.shB k (Cod.adds X Y n) i q p = Cod.shB k X i q p ^^^ Cod.shB k Y i q p
  | 0, _ => by simp [Cod.shB]
  | p + 1, hp => by
    have e : (Cod.adds X Y n).getD p [] = addB (X.getD p []) (Y.getD p []) := by
      simp [Cod.adds, List.getD, show p < n from hp]
    rw [Cod.shB, Cod.shB, Cod.shB, shB_add k X Y i q n hX hY p (by omega), e, addB_getD _ _ _ (hX p hp) (hY p hp), Fld.mul_xor, xor_swap]
/-- Shards of sums are sums of shards. -/
theorem shard_add (k : Nat) (X Y : List (List UInt8)) (i W : Nat) (hX : ∀ r ∈ X, r.length = W) (hY : ∀ r ∈ Y, r.length = W) (hk : 1 ≤ k) (hlX : X.length = k) (hlY : Y.length = k) :
    addB (Cod.shard k X i) (Cod.shard k Y i) = Cod.shard k (Cod.adds X Y k) i := by
  have hgX : ∀ j, j < k → (X.getD j []).length = W := fun j hj => by
    rw [List.getD_eq_getElem?_getD, List.getElem?_eq_getElem (by omega), Option.getD_some]
    exact hX _ (List.getElem_mem _)
  have hgY : ∀ j, j < k → (Y.getD j []).length = W := fun j hj => by
    rw [List.getD_eq_getElem?_getD, List.getElem?_eq_getElem (by omega), Option.getD_some]
    exact hY _ (List.getElem_mem _)
  have h0X : Cod.len0 X = W := by rw [Cod.len0_eq (by omega)]; exact hX _ (List.getElem_mem _)
  have h0Y : Cod.len0 Y = W := by rw [Cod.len0_eq (by omega)]; exact hY _ (List.getElem_mem _)
  have h0Z : Cod.len0 (Cod.adds X Y k) = W := by
    rw [Cod.len0_eq (by rw [Cod.adds_length]; omega)]
    simp only [Cod.adds, List.getElem_map, List.getElem_range]
    rw [addB_length, hgX 0 (by omega), hgY 0 (by omega), Nat.min_self]
  apply List.ext_getElem
  · rw [addB_length, Cod.shard_length, Cod.shard_length, Cod.shard_length, h0X, h0Y, h0Z, Nat.min_self]
  · intro q h1 h2
    have hq : q < W := by rw [Cod.shard_length, h0Z] at h2; exact h2
    have hz := shB_add k X Y i q k (fun j hj => by rw [hgX j hj]; exact hq) (fun j hj => by rw [hgY j hj]; exact hq) k (Nat.le_refl _)
    simp only [addB, List.getElem_zipWith, Cod.shard, List.getElem_map, List.getElem_range, Cod.adds_length, hlX, hlY]
    rw [Cod.ofNat_toNat (Cod.shB_lt _ _ _ _ _), Cod.ofNat_toNat (Cod.shB_lt _ _ _ _ _), hz]
theorem row_get {L : List RowB} {D : List (List UInt8)} (h : bss L = D) {j : Nat} (hj : j < L.length) : L[j].bs = D.getD j [] := by
  rw [← h, bss_get hj]
theorem Cod.pars_get (k : Nat) (D : List (List UInt8)) (n : Nat) {j : Nat} (h : j < n) : (Cod.pars k D n).getD j [] = Cod.shard k D (k + j) := by simp [Cod.pars, List.getD, h]
theorem wp_appR {w : World} {o : Oper} {a : Act} {K : Act → World → Prop} {Q : Exit → Act → World → Prop} (s x : Operand)
    (ho : o.op = .call { callee := .builtin .append, args := #[s, x], argTypes := #[22, 22] })
    (base : Nat) (A0 : Option Addr) (n0 c0 : Nat) (xs : List Value) (hs : a.eval s = .slice A0 n0 c0) (hown : w.ownsRow base 38 1 (.slice A0 n0 c0) n0 xs)
    (B : Nat) (A : Option Addr) (m c : Nat) (news : List Value) (hx : a.eval x = .slice A m c) (hm : news.length = m) (hr : Rd w B A news) (h1 : ∀ u ∈ news, u.oneCell' = true)
    (hbytes : n0 + m ≤ 1000000000) (hbase : base ≤ w.heap.size)
    (h : ∀ A' c' w', w'.ownsRow base 38 1 (.slice A' (n0 + m) c') (n0 + m) (xs ++ news) → w.grownBy w' (Value.slice A0 n0 c0).ownBlock → Below base w w' → K (a.put o.dst (.slice A' (n0 + m) c')) w') :
    o.wp Try.prog a w K Q := by
  obtain ⟨i0, hi, hz0, hz1, hz2⟩ := info_parts infoRow
  obtain ⟨A', c', w', hrun, h2, h3, h4⟩ := run_app (P := Try.prog) w base 22 o.type 38 i0 _ 24 Try.underlying22 hi hz0 hz1 hz2 rfl A0 n0 c0 xs hown B A m c news hm hr h1 (by unfold maxLen; omega) (by omega) hbase
  unfold Oper.wp execOp
  simp only [ho, resolve, invoke, builtin, Sem.run_bind, Sem.run_pure, Result.andThen_ok, List.map_toArray, List.map_cons, List.map_nil, hs, hx, hrun]
  exact h A' c' w' h2 h3 h4
set_option maxHeartbeats 3200000 in
theorem lawAdds (k m : Int) (Aa Ab : Option Addr) (na ca nb cb : Nat) (a b : List UInt8) (w : World) (hk : -9223372036854775808 ≤ k ∧ k ≤ 9223372036854775807) (hm : -9223372036854775808 ≤ m ∧ m ≤ 9223372036854775807)
    (hra : Rd w w.heap.size Aa (a.map bv)) (hna : a.length = na) (hca : na ≤ ca) (hcam : ca ≤ maxLen) (hrb : Rd w w.heap.size Ab (b.map bv)) (hnb : b.length = nb) (hcb : nb ≤ cb) (hcbm : cb ≤ maxLen) :
    Calls Try.prog 4 #[.int .i64 k, .int .i64 m, .slice Aa na ca, .slice Ab nb cb] w fun e w' => e = .returned (.bool true) ∧ Below w.heap.size w w' := by
  have hnam : na ≤ 9223372036854775807 := Nat.le_trans hca hcam
  have hnbm : nb ≤ 9223372036854775807 := Nat.le_trans hcb hcbm
  by_cases hmay : mayC k m
  · obtain ⟨hm1, hm2, hm3, hm4⟩ := hmay
    obtain ⟨k, rfl⟩ : ∃ n : Nat, k = (n : Int) := ⟨k.toNat, by omega⟩
    obtain ⟨m, rfl⟩ : ∃ n : Nat, m = (n : Int) := ⟨m.toNat, by omega⟩
    have hs : k + m ≤ 255 := by omega
    have hwkm : IntKind.i64.wrap ((k : Int) + (m : Int)) = (k : Int) + (m : Int) := by rw [IntKind.wrap_i64]; omega
    have HN := Lib.hid (fun W h => cdNew w.heap.size k m (by omega) (by omega) hs W h)
    by_cases h24 : 24 < (k : Int) + m
    · clear hra hrb hna hnb hcam hcbm hk hm
      go_enter Try.func4, Try.ntmps4
      go_wp2_with fail
      refine (fldNewA _).mono ?_
      rintro e w1 ⟨rfl, hf, hz, hb0⟩
      have hb1 := hb0 w.heap.size w (Nat.le_refl _) (Below.refl _ _)
      clear hb0 hz
      go_wp2_with fail
      refine (HN.out w1 hf).mono ?_
      rintro e w2 ⟨g, A1, c1, rfl, hg, hC, hs2⟩
      have HB2 := Lib.hid (hs2.below hb1 (Nat.le_refl _) hb1.size)
      clear hs2 hb1 hg hC hf
      go_wp2_with fail
      refine (codes _).mono ?_
      rintro e w5 ⟨rfl, hb5⟩
      have HB5 := Lib.hid (HB2.out.via hb5)
      clear hb5
      go_wp2
      go_ret
      exact ⟨rfl, HB5.out⟩
    · by_cases h3a : 3000 < na
      · clear hra hrb hna hnb hcam hcbm hk hm
        go_enter Try.func4, Try.ntmps4
        go_wp2_with fail
        refine (fldNewA _).mono ?_
        rintro e w1 ⟨rfl, hf, hz, hb0⟩
        have hb1 := hb0 w.heap.size w (Nat.le_refl _) (Below.refl _ _)
        clear hb0 hz
        go_wp2_with fail
        refine (HN.out w1 hf).mono ?_
        rintro e w2 ⟨g, A1, c1, rfl, hg, hC, hs2⟩
        have HB2 := Lib.hid (hs2.below hb1 (Nat.le_refl _) hb1.size)
        clear hs2 hb1 hg hC hf
        go_wp2_with fail
        refine (codes _).mono ?_
        rintro e w5 ⟨rfl, hb5⟩
        have HB5 := Lib.hid (HB2.out.via hb5)
        clear hb5
        go_wp2
        go_ret
        exact ⟨rfl, HB5.out⟩
      · by_cases h3b : 3000 < nb
        · clear hra hrb hna hnb hcam hcbm hk hm
          go_enter Try.func4, Try.ntmps4
          go_wp2_with fail
          refine (fldNewA _).mono ?_
          rintro e w1 ⟨rfl, hf, hz, hb0⟩
          have hb1 := hb0 w.heap.size w (Nat.le_refl _) (Below.refl _ _)
          clear hb0 hz
          go_wp2_with fail
          refine (HN.out w1 hf).mono ?_
          rintro e w2 ⟨g, A1, c1, rfl, hg, hC, hs2⟩
          have HB2 := Lib.hid (hs2.below hb1 (Nat.le_refl _) hb1.size)
          clear hs2 hb1 hg hC hf
          go_wp2_with fail
          refine (codes _).mono ?_
          rintro e w5 ⟨rfl, hb5⟩
          have HB5 := Lib.hid (HB2.out.via hb5)
          clear hb5
          go_wp2
          go_ret
          exact ⟨rfl, HB5.out⟩
        · obtain ⟨M, hM⟩ : ∃ M, max na nb = M := ⟨_, rfl⟩
          have hq1 : M / k ≤ 3000 := Nat.le_trans (Nat.div_le_self _ _) (by omega)
          have hq2 : M ≤ k * (M / k + 1) := by
            have := Nat.lt_mul_div_succ M (show 0 < k by omega)
            omega
          obtain ⟨Q, hQ⟩ : ∃ Q, M / k = Q := ⟨_, rfl⟩
          rw [hQ] at hq1 hq2
          have hdiv : (M : Int).tdiv (k : Int) = (Q : Int) := by
            rw [← hQ]
            rfl
          have hdiv2 : (M : Int) / (k : Int) = (Q : Int) := by
            rw [← hQ]
            rfl
          have hk0 : 0 < k := by omega
          have HRA := Lib.hid hra
          have HRB := Lib.hid hrb
          have HNA := Lib.hid hna
          have HNB := Lib.hid hnb
          have HCA := Lib.hid hcam
          have HCB := Lib.hid hcbm
          have hma : na ≤ M := by omega
          have hmb : nb ≤ M := by omega
          have hmk := makeR k k (Nat.le_refl _) (by omega)
          clear hQ hra hna hcam hrb hnb hcbm hk hm
          go_enter Try.func4, Try.ntmps4
          go_wp2_with fail
          refine (fldNewA _).mono ?_
          rintro e w1 ⟨rfl, hf, hz, hb0⟩
          have hb1 := hb0 w.heap.size w (Nat.le_refl _) (Below.refl _ _)
          clear hb0 hz
          go_wp2_with fail
          refine (HN.out w1 hf).mono ?_
          rintro e w2 ⟨g, A1, c1, rfl, hg, hC, hs2⟩
          have HB2 := Lib.hid (hs2.below hb1 (Nat.le_refl _) hb1.size)
          have HC2 := Lib.hid hC
          clear hs2 hb1 hg hC hf
          have hdA : ¬ na < nb → (na : Int) / (k : Int) = (Q : Int) := fun h => by
            rw [← hdiv2]
            congr 1
            omega
          have hdB : na < nb → (nb : Int) / (k : Int) = (Q : Int) := fun h => by
            rw [← hdiv2]
            congr 1
            omega
          have HDA := Lib.hid hdA
          have HDB := Lib.hid hdB
          clear hdA hdB hdiv hdiv2
          go_upto_region 4 with fail
          go_cut [10] (fun x wx => x = .int .i64 ((Q + 1 : Nat) : Int) ∧ wx = w2)
          case first =>
            clear HN HC2 HB2 HRA HRB
            go_wp2
            all_goals (go_meet; refine ⟨int_eq ?_, rfl⟩; first | (rw [HDA.out (by assumption)]; unfold wrap64; omega) | (rw [HDB.out (by assumption)]; unfold wrap64; omega))
          case rest =>
            obtain ⟨rfl, rfl⟩ := hcut
            obtain ⟨W, hW⟩ : ∃ W, Q + 1 = W := ⟨_, rfl⟩
            rw [hW] at hq2 ⊢
            have hW1 : 1 ≤ W ∧ W ≤ 65536 := by omega
            clear HN HDA HDB hM
            go_wp2_with fail
            refine (cdSplit HC2.out w.heap.size Aa na ca W a (HRA.out.below HB2.out) HB2.out.size HNA.out hca HCA.out hW1 (by omega)).mono ?_
            rintro e w3 ⟨A3, n3, c3, L3, rfl, hL3, hn3, ho3, hR3, hb3⟩
            obtain rfl : n3 = k := by
              have := congrArg List.length hL3
              rw [List.length_map, Cod.splitD_length] at this
              omega
            have HB3 := Lib.hid (HB2.out.via hb3)
            have HC3 := Lib.hid (HC2.out.below hb3)
            have HP3 := Lib.hid (Rd.of_own ho3)
            have HQ3 := Lib.hid hR3.at
            have HN3 := Lib.hid hn3
            have HL3 : Hid (bss L3 = Cod.splitD a W n3) := hL3
            clear hL3 hn3 ho3 hR3 hb3 HC2 HB2
            go_wp2_with fail
            refine (cdSplit HC3.out w.heap.size Ab nb cb W b (HRB.out.below HB3.out) HB3.out.size HNB.out hcb HCB.out hW1 (by omega)).mono ?_
            rintro e w4 ⟨A4, n4, c4, L4, rfl, hL4, hn4, ho4, hR4, hb4⟩
            obtain rfl : n4 = n3 := by
              have := congrArg List.length hL4
              rw [List.length_map, Cod.splitD_length] at this
              omega
            have HB4 := Lib.hid (HB3.out.via hb4)
            have HC4 := Lib.hid (HC3.out.below hb4)
            have HP3 := Lib.hid ((HP3.out.below hb4).more hb4.size)
            have HQ3 : Hid (RowsAt w4 w4.heap.size L3) := fun r hr => ((HQ3.out r hr).below hb4).more hb4.size
            have HP4 := Lib.hid (Rd.of_own ho4)
            have HQ4 := Lib.hid hR4.at
            have HN4 := Lib.hid hn4
            have HL4 : Hid (bss L4 = Cod.splitD b W n4) := hL4
            have HE3 : Hid (∀ r ∈ L3, r.n = W) := fun r hr => by
              rw [← (HQ3.out r hr).len]
              have h1 := (split_evn a W n4).1
              rw [Cod.evn_true] at h1
              have h2 := h1 r.bs (by rw [← HL3.out]; exact List.mem_map.2 ⟨r, hr, rfl⟩)
              rw [(split_evn a W n4).2 hk0] at h2
              exact h2
            have HE4 : Hid (∀ r ∈ L4, r.n = W) := fun r hr => by
              rw [← (HQ4.out r hr).len]
              have h1 := (split_evn b W n4).1
              rw [Cod.evn_true] at h1
              have h2 := h1 r.bs (by rw [← HL4.out]; exact List.mem_map.2 ⟨r, hr, rfl⟩)
              rw [(split_evn b W n4).2 hk0] at h2
              exact h2
            have HLR3 := Lib.hid HQ3.out.lens
            have HLR4 := Lib.hid HQ4.out.lens
            clear hL4 hn4 ho4 hR4 hb4 HC3 HB3 HRA HRB
            go_wp2
            go_loopw [15, 16] (fun l i wr => ∃ (p : Nat) (A' : Option Addr) (c' : Nat) (M' : List RowB), i = .int .i64 p ∧ p ≤ n4 ∧ l = .slice A' p c' ∧ Hid (MadeI w4 (Cod.adds (bss L3) (bss L4) p) A' c' M' wr)) (fun _ i _ => n4 - (intOf i).toNat)
            case atStart => exact ⟨0, none, 0, [], rfl, Nat.zero_le _, rfl, MadeI.nil w4 w4 0 (Below.refl _ _)⟩
            case round =>
              obtain ⟨p, A', c', M', rfl, hp, rfl, HI⟩ := hrel
              have HML := Lib.hid HI.out.len
              rw [Cod.adds_length] at HML
              have hz := HI.out.below.size
              by_cases hlt : p < n4
              · have hp3 : p < L3.length := by rw [HN3.out]; exact hlt
                have hp4 : p < L4.length := by rw [HN4.out]; exact hlt
                obtain ⟨ad3, rfl, hab3, hcell3⟩ := (HP3.out.below HI.out.below).row hp3
                obtain ⟨ad4, rfl, hab4, hcell4⟩ := (HP4.out.below HI.out.below).row hp4
                have hq3 := (HQ3.out.get hp3).below HI.out.below
                have hq4 := (HQ4.out.get hp4).below HI.out.below
                have he3 := HE3.out _ (List.getElem_mem hp3)
                have he4 := HE4.out _ (List.getElem_mem hp4)
                have HG3 : Hid ((bss L3).getD p [] = L3[p].bs) := (show _ = _ from bss_get hp3)
                have HG4 : Hid ((bss L4).getD p [] = L4[p].bs) := (show _ = _ from bss_get hp4)
                generalize L3[p] = r3 at *
                generalize L4[p] = r4 at *
                obtain ⟨rA3, rn3, rc3, x3⟩ := r3
                obtain ⟨rA4, rn4, rc4, x4⟩ := r4
                simp only at hcell3 hcell4 he3 he4 HG3 HG4
                subst he3
                subst he4
                have HAD := Lib.hid (lawAdded5 rA3 rA4 rn4 rc3 rn4 rc4 x3 x4 w4.heap.size wr.drew (hq3.rd.drewN 1) (hq4.rd.drewN 1) hq3.len hq4.len hz (by omega) (by omega))
                have HPU := Lib.hid (fun A5 n5 c5 w5 hb ho A6 c6 w6 ho6 hg6 hb6 => MadeI.push (wr := wr.drew) (w2 := w5) (w3 := w6) (A3 := A6) (c3 := c6) (x := addB x3 x4) (r := ⟨A5, n5, c5, addB x3 x4⟩) ⟨HI.out.bs, HI.out.own, HI.out.rows.drewN 1, below_drewN HI.out.below 1⟩ rfl hb ho ho6 hg6 hb6)
                rw [Cod.adds_length] at HPU
                have HNX : Hid (Cod.adds (bss L3) (bss L4) p ++ [addB x3 x4] = Cod.adds (bss L3) (bss L4) (p + 1)) := (show _ = _ by rw [Cod.adds_next, HG3.out, HG4.out])
                rw [HNX.out] at HPU
                have HOO : Hid (wr.drew.ownsRow w4.heap.size 38 1 (.slice A' p c') p (M'.map RowB.v)) := by
                  have := HI.out.own
                  rw [Cod.adds_length] at this
                  exact this
                have hg3 := block_lt_of_cell hcell3
                have hg4 := block_lt_of_cell hcell4
                have hca3 : wr.drew.cell? (ad3.add p) = some (.slice rA3 rn4 rc3) := hcell3
                have hca4 : wr.drew.cell? (ad4.add p) = some (.slice rA4 rn4 rc4) := hcell4
                clear hq3 hq4 hcell3 hcell4 HI HG3 HG4 HNX
                go_wp2
                refine wp_region_held_drew (S := (fun wQq => Below w4.heap.size wr.drew wQq)) (by kernel_rfl) (Below.refl _ _) (fun _ => ?_)
                refine wpAnyH_take (i := 0) (v := ?_) rfl (by kernel_rfl) (by kernel_rfl) (by kernel_rfl) (fun _ _ _ h => h) (Or.inl ⟨by rfl, ?_⟩) (Below.refl _ _) ?_
                rotate_left
                · intro wS hSw
                  go_simp
                  try with_reducible rfl
                try simp only [List.getElem_toArray, List.getElem_cons_zero, List.getElem_cons_succ, Act.put, List.setIfInBounds_toArray, List.set_cons_zero, List.set_cons_succ]
                refine wpAnyH_take (i := 1) (v := ?_) rfl (by kernel_rfl) (by kernel_rfl) (by kernel_rfl) (fun _ _ _ h => h) (Or.inl ⟨by rfl, ?_⟩) (Below.refl _ _) ?_
                rotate_left
                · intro wS hSw
                  go_simp
                  try with_reducible rfl
                try simp only [List.getElem_toArray, List.getElem_cons_zero, List.getElem_cons_succ, Act.put, List.setIfInBounds_toArray, List.set_cons_zero, List.set_cons_succ]
                refine wpAnyH_take (i := 2) (v := ?_) rfl (by kernel_rfl) (by kernel_rfl) (by kernel_rfl) (fun _ _ _ h => h) (Or.inl ⟨by rfl, ?_⟩) (Below.refl _ _) ?_
                rotate_left
                · intro wS hSw
                  go_simp
                  try with_reducible rfl
                try simp only [List.getElem_toArray, List.getElem_cons_zero, List.getElem_cons_succ, Act.put, List.setIfInBounds_toArray, List.set_cons_zero, List.set_cons_succ]
                refine wpAnyH_take (i := 3) (v := ?_) rfl (by kernel_rfl) (by kernel_rfl) (by kernel_rfl) (fun _ _ _ h => h) (Or.inl ⟨by rfl, ?_⟩) (Below.refl _ _) ?_
                rotate_left
                · intro wS hSw
                  go_simp
                  try with_reducible rfl
                try simp only [List.getElem_toArray, List.getElem_cons_zero, List.getElem_cons_succ, Act.put, List.setIfInBounds_toArray, List.set_cons_zero, List.set_cons_succ]
                refine wpAnyH_take (i := 5) (v := ?_) rfl (by kernel_rfl) (by kernel_rfl) (by kernel_rfl) (fun _ _ _ h => h) (Or.inl ⟨by rfl, ?_⟩) (Below.refl _ _) ?_
                rotate_left
                · intro wS hSw
                  go_simp
                  try with_reducible rfl
                try simp only [List.getElem_toArray, List.getElem_cons_zero, List.getElem_cons_succ, Act.put, List.setIfInBounds_toArray, List.set_cons_zero, List.set_cons_succ]
                refine wpAnyH_take (i := 6) (v := ?_) rfl (by kernel_rfl) (by kernel_rfl) (by kernel_rfl) (fun _ _ _ h => h) (Or.inl ⟨by rfl, ?_⟩) (Below.refl _ _) ?_
                rotate_left
                · intro wS hSw
                  go_simp
                  try with_reducible rfl
                try simp only [List.getElem_toArray, List.getElem_cons_zero, List.getElem_cons_succ, Act.put, List.setIfInBounds_toArray, List.set_cons_zero, List.set_cons_succ]
                refine wpAnyH_take (i := 7) (v := ?_) rfl (by kernel_rfl) (by kernel_rfl) (by kernel_rfl) (fun _ _ _ h => h) (Or.inl ⟨by rfl, ?_⟩) (Below.refl _ _) ?_
                rotate_left
                · intro wS hSw
                  go_simp
                  try with_reducible rfl
                try simp only [List.getElem_toArray, List.getElem_cons_zero, List.getElem_cons_succ, Act.put, List.setIfInBounds_toArray, List.set_cons_zero, List.set_cons_succ]
                refine wpAnyH_take (i := 4) (v := ?_) rfl (by kernel_rfl) (by kernel_rfl) (by kernel_rfl) (fun _ _ _ h => h) (Or.inl ⟨by rfl, ?_⟩) (Below.refl _ _) ?_
                rotate_left
                · intro wS hSw
                  have hcv := ((hSw.cell (p := ad3.add p) (by rw [addr_add_block]; exact hab3)).trans hca3)
                  go_simp
                  try with_reducible rfl
                try simp only [List.getElem_toArray, List.getElem_cons_zero, List.getElem_cons_succ, Act.put, List.setIfInBounds_toArray, List.set_cons_zero, List.set_cons_succ]
                refine wpAnyH_take (i := 8) (v := ?_) rfl (by kernel_rfl) (by kernel_rfl) (by kernel_rfl) (fun _ _ _ h => h) (Or.inl ⟨by rfl, ?_⟩) (Below.refl _ _) ?_
                rotate_left
                · intro wS hSw
                  have hcv := ((hSw.cell (p := ad4.add p) (by rw [addr_add_block]; exact hab4)).trans hca4)
                  go_simp
                  try with_reducible rfl
                try simp only [List.getElem_toArray, List.getElem_cons_zero, List.getElem_cons_succ, Act.put, List.setIfInBounds_toArray, List.set_cons_zero, List.set_cons_succ]
                refine wpAnyH_ready (rs := [9]) (by kernel_rfl) (by simp) ?_
                refine AllReadyH.cons rfl (fun K hK => ?_) AllReadyH.nil
                go_simp
                refine HAD.out.mono ?_
                rintro e w5 ⟨A5, n5, c5, rfl, hn5, ho5, hb5⟩
                have HO5 := Lib.hid ho5
                have HB5 := Lib.hid hb5
                have hz5 : w4.heap.size ≤ w5.heap.size := Nat.le_trans hz hb5.size
                refine hK.out _ _ (hb5.mono hz) (fun _ => ?_)
                clear hK K
                try simp only [List.getElem_toArray, List.getElem_cons_zero, List.getElem_cons_succ, Act.put, List.setIfInBounds_toArray, List.set_cons_zero, List.set_cons_succ]
                refine wpAnyH_ready (rs := [10]) (by kernel_rfl) (by simp) ?_
                refine AllReadyH.cons rfl (fun K hK => ?_) AllReadyH.nil
                go_simp
                refine hK.out _ _ ((hb5.mono hz).alloc hz5 _) (fun _ => ?_)
                clear hK K
                try simp only [List.getElem_toArray, List.getElem_cons_zero, List.getElem_cons_succ, Act.put, List.setIfInBounds_toArray, List.set_cons_zero, List.set_cons_succ]
                refine wpAnyH_ready (rs := [11]) (by kernel_rfl) (by simp) ?_
                refine AllReadyH.cons rfl (fun K hK => ?_) AllReadyH.nil
                refine wp_appR (.tmp 94) (.tmp 104) rfl w4.heap.size A' p c' (M'.map RowB.v) rfl ((own_via HOO.out HB5.out).alloc _) _ (some ⟨w5.heap.size, 0, none⟩) 1 1 [.slice A5 n5 c5] rfl rfl (Rd.new w5 _ _ _ rfl) (one_rows (L := [⟨A5, n5, c5, []⟩])) (by omega) (by simp; omega) ?_
                intro A6 c6 w6 ho6 hg6 hb6
                refine hK.out _ _ (((hb5.mono hz).alloc hz5 _).trans hb6) (fun _ => ?_)
                clear hK K
                try simp only [List.getElem_toArray, List.getElem_cons_zero, List.getElem_cons_succ, Act.put, List.setIfInBounds_toArray, List.set_cons_zero, List.set_cons_succ]
                refine wpAnyH_take (i := 12) (v := ?_) rfl (by kernel_rfl) (by kernel_rfl) (by kernel_rfl) (fun _ _ _ h => h) (Or.inl ⟨by rfl, ?_⟩) (((hb5.mono hz).alloc hz5 _).trans hb6) ?_
                rotate_left
                · intro wS hSw
                  go_simp
                  try with_reducible rfl
                try simp only [List.getElem_toArray, List.getElem_cons_zero, List.getElem_cons_succ, Act.put, List.setIfInBounds_toArray, List.set_cons_zero, List.set_cons_succ]
                refine wpAnyH_done (by kernel_rfl) ?_ _
                go_wp2
                go_roundw
                case rel => exact ⟨p + 1, A6, c6, _, by go_num, hlt, rfl, HPU.out A5 n5 c5 w5 HB5.out HO5.out A6 c6 w6 ho6 hg6 hb6⟩
                case measure => simp [intOf]; omega
              · obtain rfl : p = n4 := by omega
                have HBB := Lib.hid HI.out.below
                have HBS : Hid (bss M' = Cod.adds (bss L3) (bss L4) p) := HI.out.bs
                have HPB := Lib.hid (Rd.of_own (by have := HI.out.own; rw [Cod.adds_length] at this; exact this))
                have HQB := Lib.hid HI.out.rows.at
                have HC5 := Lib.hid (HC4.out.below HBB.out)
                have HB5 := Lib.hid (HB4.out.via HBB.out)
                have HP3 := Lib.hid ((HP3.out.below HBB.out).more HBB.out.size)
                have HQ3 : Hid (RowsAt wr wr.heap.size L3) := fun r hr => ((HQ3.out r hr).below HBB.out).more HBB.out.size
                have HP4 := Lib.hid ((HP4.out.below HBB.out).more HBB.out.size)
                have HQ4 : Hid (RowsAt wr wr.heap.size L4) := fun r hr => ((HQ4.out r hr).below HBB.out).more HBB.out.size
                have HV3 : Hid (Cod.evn (bss L3) = true) := (show _ = _ by rw [HL3.out]; exact (split_evn _ _ _).1)
                have HV4 : Hid (Cod.evn (bss L4) = true) := (show _ = _ by rw [HL4.out]; exact (split_evn _ _ _).1)
                have HW3 : Hid (∀ r ∈ bss L3, r.length = W) := fun r hr => by
                  have h1 := HV3.out
                  rw [Cod.evn_true] at h1
                  rw [h1 r hr, HL3.out, (split_evn _ _ _).2 hk0]
                have HW4 : Hid (∀ r ∈ bss L4, r.length = W) := fun r hr => by
                  have h1 := HV4.out
                  rw [Cod.evn_true] at h1
                  rw [h1 r hr, HL4.out, (split_evn _ _ _).2 hk0]
                have HD3 : Hid ((bss L3).length = p) := (show _ = _ by simpa [bss] using HN3.out)
                have HD4 : Hid ((bss L4).length = p) := (show _ = _ by simpa [bss] using HN4.out)
                have HAW : Hid (∀ j, j < p → (addB ((bss L3).getD j []) ((bss L4).getD j [])).length = W) := fun j hj => by
                  have h1 := HD3.out
                  have h2 := HD4.out
                  rw [addB_length, List.getD_eq_getElem?_getD, List.getElem?_eq_getElem (by omega), List.getD_eq_getElem?_getD, List.getElem?_eq_getElem (by omega), Option.getD_some, Option.getD_some, HW3.out _ (List.getElem_mem _), HW4.out _ (List.getElem_mem _), Nat.min_self]
                have HWB : Hid (∀ r ∈ bss M', r.length = W) := fun r hr => by
                  rw [HBS.out] at hr
                  simp only [Cod.adds, List.mem_map, List.mem_range] at hr
                  obtain ⟨j, hj, rfl⟩ := hr
                  exact HAW.out j hj
                have HVB : Hid (Cod.len0 (bss M') = W) := by
                  show _ = _
                  rw [Cod.len0_eq (by rw [HBS.out, Cod.adds_length]; omega)]
                  exact HWB.out _ (List.getElem_mem _)
                have HVE : Hid (Cod.evn (bss M') = true) := by
                  show _ = _
                  rw [Cod.evn_true]
                  intro r hr
                  rw [HVB.out]
                  exact HWB.out r hr
                have HMB : Hid (∀ r ∈ M', r.n ≤ 1000000000) := fun r hr => by
                  rw [← (HQB.out r hr).len, HWB.out _ (List.mem_map.2 ⟨r, hr, rfl⟩)]
                  omega
                have HSH : Hid (∀ i, addB (Cod.shard p (bss L3) i) (Cod.shard p (bss L4) i) = Cod.shard p (bss M') i) := fun i => by
                  rw [HBS.out]
                  exact shard_add p (bss L3) (bss L4) i W HW3.out HW4.out hk0 HD3.out HD4.out
                clear HI HC4 HB4 HBB HL3 HL4 HAW HBS HW3 HW4
                go_wp2_with fail
                refine (cdEncode HC5.out L3 wr.heap.size A3 c3 HP3.out HQ3.out (Nat.le_refl _) HN3.out HV3.out (fun r hr => by rw [HE3.out r hr]; omega)).mono ?_
                rintro e w5 ⟨A5, n5, c5, L5, rfl, hL5, hn5, ho5, hR5, hb5⟩
                obtain rfl : n5 = m := by
                  have := congrArg List.length hL5
                  rw [List.length_map, Cod.pars_length] at this
                  omega
                have HC6 := Lib.hid (HC5.out.below hb5)
                have HB6 := Lib.hid (HB5.out.via hb5)
                have HP4 := Lib.hid ((HP4.out.below hb5).more hb5.size)
                have HQ4 : Hid (RowsAt w5 w5.heap.size L4) := fun r hr => ((HQ4.out r hr).below hb5).more hb5.size
                have HPB := Lib.hid ((HPB.out.below hb5).more hb5.size)
                have HQB : Hid (RowsAt w5 w5.heap.size M') := fun r hr => ((HQB.out r hr).below hb5).more hb5.size
                have HP5 := Lib.hid (Rd.of_own ho5)
                have HQ5 := Lib.hid hR5.at
                have HL5 : Hid (bss L5 = Cod.pars p (bss L3) n5) := hL5
                have HN5 := Lib.hid hn5
                clear hL5 hn5 ho5 hR5 hb5 HC5 HB5 HP3 HQ3
                go_wp2_with fail
                refine (cdEncode HC6.out L4 w5.heap.size A4 c4 HP4.out HQ4.out (Nat.le_refl _) HN4.out HV4.out (fun r hr => by rw [HE4.out r hr]; omega)).mono ?_
                rintro e w6 ⟨A6, n6, c6, L6, rfl, hL6, hn6, ho6, hR6, hb6⟩
                obtain rfl : n6 = n5 := by
                  have := congrArg List.length hL6
                  rw [List.length_map, Cod.pars_length] at this
                  omega
                have HC7 := Lib.hid (HC6.out.below hb6)
                have HB7 := Lib.hid (HB6.out.via hb6)
                have HPB := Lib.hid ((HPB.out.below hb6).more hb6.size)
                have HQB : Hid (RowsAt w6 w6.heap.size M') := fun r hr => ((HQB.out r hr).below hb6).more hb6.size
                have HP5 := Lib.hid ((HP5.out.below hb6).more hb6.size)
                have HQ5 : Hid (RowsAt w6 w6.heap.size L5) := fun r hr => ((HQ5.out r hr).below hb6).more hb6.size
                have HP6 := Lib.hid (Rd.of_own ho6)
                have HQ6 := Lib.hid hR6.at
                have HL6 : Hid (bss L6 = Cod.pars p (bss L4) n6) := hL6
                have HN6 := Lib.hid hn6
                clear hL6 hn6 ho6 hR6 hb6 HC6 HB6 HP4 HQ4
                go_wp2_with fail
                refine (cdEncode HC7.out M' w6.heap.size A' c' HPB.out HQB.out (Nat.le_refl _) HML.out HVE.out HMB.out).mono ?_
                rintro e w7 ⟨A7, n7, c7, L7, rfl, hL7, hn7, ho7, hR7, hb7⟩
                obtain rfl : n7 = n6 := by
                  have := congrArg List.length hL7
                  rw [List.length_map, Cod.pars_length] at this
                  omega
                have HC8 := Lib.hid (HC7.out.below hb7)
                have HB8 := Lib.hid (HB7.out.via hb7)
                have HP5 := Lib.hid ((HP5.out.below hb7).more hb7.size)
                have HQ5 : Hid (RowsAt w7 w7.heap.size L5) := fun r hr => ((HQ5.out r hr).below hb7).more hb7.size
                have HP6 := Lib.hid ((HP6.out.below hb7).more hb7.size)
                have HQ6 : Hid (RowsAt w7 w7.heap.size L6) := fun r hr => ((HQ6.out r hr).below hb7).more hb7.size
                have HP7 := Lib.hid (Rd.of_own ho7)
                have HQ7 := Lib.hid hR7.at
                have HL7 : Hid (bss L7 = Cod.pars p (bss M') n7) := hL7
                have HN7 := Lib.hid hn7
                clear hL7 hn7 ho7 hR7 hb7 HC7 HB7 HPB HQB
                have hal : Below w7.heap.size w7 (w7.alloc (.cells (madeCells #[.slice none 0 0] p) 38)) := (Below.refl _ _).alloc (Nat.le_refl _) _
                have HE8 := Lib.hid (cdEncode (HC8.out.below hal) (List.replicate p ⟨none, 0, 0, []⟩) (w7.heap.size + 1) (some ⟨w7.heap.size, 0, none⟩) p
                  (by
                    have := Rd.new w7 (madeCells #[.slice none 0 0] p) 38 (0, 0) (vs := (List.replicate p (⟨none, 0, 0, []⟩ : RowB)).map RowB.v) (by
                      apply List.ext_getElem
                      · simp [size_madeCells]
                      · intro j h1 h2
                        simp [madeCells, Nat.mod_one, RowB.v])
                    exact this)
                  (fun r hr => by rw [List.eq_of_mem_replicate hr]; exact ⟨Rd.nil _ _ _, rfl, Nat.le_refl _, Nat.zero_le _⟩) (by simp) (by simp)
                  (by rw [Cod.evn_true]; intro r hr; simp only [bss, List.map_replicate] at hr ⊢; rw [List.eq_of_mem_replicate hr]; unfold Cod.len0; cases p <;> rfl)
                  (fun r hr => by rw [List.eq_of_mem_replicate hr]; exact Nat.zero_le _))
                have HAL := Lib.hid hal
                clear hal
                go_wp2_with fail
                refine HE8.out.mono ?_
                rintro e w8 ⟨A8, n8, c8, L8, rfl, hL8, hn8, ho8, hR8, hb8'⟩
                obtain rfl : n8 = n7 := by
                  have := congrArg List.length hL8
                  rw [List.length_map, Cod.pars_length] at this
                  omega
                have hb8 := HAL.out.via hb8'
                have HB9 := Lib.hid (HB8.out.via hb8)
                have HP5 := Lib.hid ((HP5.out.below hb8).more hb8.size)
                have HQ5 : Hid (RowsAt w8 w8.heap.size L5) := fun r hr => ((HQ5.out r hr).below hb8).more hb8.size
                have HP6 := Lib.hid ((HP6.out.below hb8).more hb8.size)
                have HQ6 : Hid (RowsAt w8 w8.heap.size L6) := fun r hr => ((HQ6.out r hr).below hb8).more hb8.size
                have HP7 := Lib.hid ((HP7.out.below hb8).more hb8.size)
                have HQ7 : Hid (RowsAt w8 w8.heap.size L7) := fun r hr => ((HQ7.out r hr).below hb8).more hb8.size
                have HP8 := Lib.hid (Rd.of_own ho8)
                have HQ8 := Lib.hid hR8.at
                have HL8 : Hid (bss L8 = Cod.pars p (bss (List.replicate p ⟨none, 0, 0, []⟩)) n8) := hL8
                have HN8 := Lib.hid hn8
                clear hL8 hn8 ho8 hR8 hb8 hb8' HC8 HB8 HE8 HAL hmk
                have HZ5 : Hid (∀ j (h : j < L5.length), L5[j].bs = Cod.shard p (bss L3) (p + j)) := fun j h => by
                  have := row_get HL5.out h
                  have hnn := HN5.out
                  rwa [Cod.pars_get _ _ _ (by omega)] at this
                have HZ6 : Hid (∀ j (h : j < L6.length), L6[j].bs = Cod.shard p (bss L4) (p + j)) := fun j h => by
                  have := row_get HL6.out h
                  have hnn := HN6.out
                  rwa [Cod.pars_get _ _ _ (by omega)] at this
                have HZ7 : Hid (∀ j (h : j < L7.length), L7[j].bs = Cod.shard p (bss M') (p + j)) := fun j h => by
                  have := row_get HL7.out h
                  have hnn := HN7.out
                  rwa [Cod.pars_get _ _ _ (by omega)] at this
                have HZ8 : Hid (∀ j (h : j < L8.length), L8[j].bs.length = 0) := fun j h => by
                  have := row_get HL8.out h
                  have hnn := HN8.out
                  rw [Cod.pars_get _ _ _ (by omega)] at this
                  rw [this, Cod.shard_length]
                  unfold bss Cod.len0
                  rw [List.map_replicate]
                  cases p <;> rfl
                clear HL5 HL6 HL7 HL8
                go_wp2
                go_loopw [25] (fun i wr => ∃ q : Nat, i = .int .i64 q ∧ q ≤ n8 ∧ Hid (Below w8.heap.size w8 wr)) (fun i _ => n8 - (intOf i).toNat)
                case atStart => exact ⟨0, rfl, Nat.zero_le _, Below.refl _ _⟩
                case round =>
                  obtain ⟨q, rfl, hq, HBQ⟩ := hrel
                  have HB10 := Lib.hid (HB9.out.via HBQ.out)
                  by_cases hlq : q < n8
                  · have hq5 : q < L5.length := by rw [HN5.out]; exact hlq
                    have hq6 : q < L6.length := by rw [HN6.out]; exact hlq
                    have hq7 : q < L7.length := by rw [HN7.out]; exact hlq
                    have hq8 : q < L8.length := by rw [HN8.out]; exact hlq
                    obtain ⟨ad5, rfl, _, hc5⟩ := (HP5.out.below HBQ.out).row hq5
                    obtain ⟨ad6, rfl, _, hc6⟩ := (HP6.out.below HBQ.out).row hq6
                    obtain ⟨ad7, rfl, _, hc7⟩ := (HP7.out.below HBQ.out).row hq7
                    obtain ⟨ad8, rfl, _, hc8⟩ := (HP8.out.below HBQ.out).row hq8
                    have ht5 := (HQ5.out.get hq5).below HBQ.out
                    have ht6 := (HQ6.out.get hq6).below HBQ.out
                    have ht7 := (HQ7.out.get hq7).below HBQ.out
                    have ht8 := (HQ8.out.get hq8).below HBQ.out
                    have hx5 := HZ5.out q hq5
                    have hx6 := HZ6.out q hq6
                    have hx7 := HZ7.out q hq7
                    have hx8 := HZ8.out q hq8
                    have hsum := HSH.out (p + q)
                    rw [← hx5, ← hx6, ← hx7] at hsum
                    have hl7 : L7[q].bs.length = W := by rw [hx7, Cod.shard_length, HVB.out]
                    have hl5 : L5[q].bs.length ≤ 1000000000 := by
                      rw [hx5, Cod.shard_length, Cod.len0_of' (by rw [HN3.out]; omega) (fun r hr => ?_), HE3.out _ (List.getElem_mem _)]
                      · omega
                      · exact HLR3.out r hr
                    have hl6 : L6[q].bs.length ≤ 1000000000 := by
                      rw [hx6, Cod.shard_length, Cod.len0_of' (by rw [HN4.out]; omega) (fun r hr => ?_), HE4.out _ (List.getElem_mem _)]
                      · omega
                      · exact HLR4.out r hr
                    clear hx5 hx6 hx7
                    have hg5 := block_lt_of_cell hc5
                    have hg6 := block_lt_of_cell hc6
                    have hg7 := block_lt_of_cell hc7
                    have hg8 := block_lt_of_cell hc8
                    generalize L5[q] = r5 at *
                    generalize L6[q] = r6 at *
                    generalize L7[q] = r7 at *
                    generalize L8[q] = r8 at *
                    obtain ⟨rA5, rn5, rc5, x5⟩ := r5
                    obtain ⟨rA6, rn6, rc6, x6⟩ := r6
                    obtain ⟨rA7, rn7, rc7, x7⟩ := r7
                    obtain ⟨rA8, rn8, rc8, x8⟩ := r8
                    simp only at hc5 hc6 hc7 hc8 hsum hl5 hl6 hl7 hx8
                    obtain rfl : rn7 = W := by rw [← hl7]; exact ht7.len.symm
                    obtain rfl : rn8 = 0 := by rw [← hx8]; exact ht8.len.symm
                    have HZW := Lib.hid HBQ.out.size
                    have HADD := Lib.hid (lawAdded5 rA5 rA6 rn5 rc5 rn6 rc6 x5 x6 w8.heap.size wr.drew (ht5.rd.drewN 1) (ht6.rd.drewN 1) ht5.len ht6.len HZW.out (by have h := ht5.len; simp only at h; omega) (by have h := ht6.len; simp only at h; omega))
                    rw [hsum] at HADD
                    have HT7 := Lib.hid ht7
                    have hd5 : wr.drew.cell? (ad5.add q) = some (.slice rA5 rn5 rc5) := hc5
                    have hd6 : wr.drew.cell? (ad6.add q) = some (.slice rA6 rn6 rc6) := hc6
                    have hd7 : wr.drew.cell? (ad7.add q) = some (.slice rA7 rn7 rc7) := hc7
                    have hd8 : wr.drew.cell? (ad8.add q) = some (.slice rA8 0 rc8) := hc8
                    have HBD : Hid (Below w8.heap.size w8 wr.drew) := below_drewN HBQ.out 1
                    clear hc5 hc6 hc7 hc8 ht5 ht6 ht7 ht8 hsum HB10
                    go_wp2
                    refine wp_region_held_drew (S := (fun wQq => Below (World.heap (wr.drew)).size (wr.drew) wQq)) (by kernel_rfl) (by exact Below.refl _ _) (fun _ => ?_)
                    refine wpAnyH_take (i := 0) (v := ?_) rfl (by kernel_rfl) (by kernel_rfl) (by kernel_rfl) (fun _ _ _ h => h) (Or.inl ⟨by rfl, ?_⟩) (Below.refl _ _) ?_
                    rotate_left
                    · intro wS hSw
                      go_simp
                      try with_reducible rfl
                    try simp only [List.getElem_toArray, List.getElem_cons_zero, List.getElem_cons_succ, Act.put, List.setIfInBounds_toArray, List.set_cons_zero, List.set_cons_succ]
                    refine wpAnyH_take (i := 1) (v := ?_) rfl (by kernel_rfl) (by kernel_rfl) (by kernel_rfl) (fun _ _ _ h => h) (Or.inl ⟨by rfl, ?_⟩) (Below.refl _ _) ?_
                    rotate_left
                    · intro wS hSw
                      go_simp
                      try with_reducible rfl
                    try simp only [List.getElem_toArray, List.getElem_cons_zero, List.getElem_cons_succ, Act.put, List.setIfInBounds_toArray, List.set_cons_zero, List.set_cons_succ]
                    refine wpAnyH_take (i := 2) (v := ?_) rfl (by kernel_rfl) (by kernel_rfl) (by kernel_rfl) (fun _ _ _ h => h) (Or.inl ⟨by rfl, ?_⟩) (Below.refl _ _) ?_
                    rotate_left
                    · intro wS hSw
                      go_simp
                      try with_reducible rfl
                    try simp only [List.getElem_toArray, List.getElem_cons_zero, List.getElem_cons_succ, Act.put, List.setIfInBounds_toArray, List.set_cons_zero, List.set_cons_succ]
                    refine wpAnyH_take (i := 4) (v := ?_) rfl (by kernel_rfl) (by kernel_rfl) (by kernel_rfl) (fun _ _ _ h => h) (Or.inl ⟨by rfl, ?_⟩) (Below.refl _ _) ?_
                    rotate_left
                    · intro wS hSw
                      go_simp
                      try with_reducible rfl
                    try simp only [List.getElem_toArray, List.getElem_cons_zero, List.getElem_cons_succ, Act.put, List.setIfInBounds_toArray, List.set_cons_zero, List.set_cons_succ]
                    refine wpAnyH_take (i := 5) (v := ?_) rfl (by kernel_rfl) (by kernel_rfl) (by kernel_rfl) (fun _ _ _ h => h) (Or.inl ⟨by rfl, ?_⟩) (Below.refl _ _) ?_
                    rotate_left
                    · intro wS hSw
                      go_simp
                      try with_reducible rfl
                    try simp only [List.getElem_toArray, List.getElem_cons_zero, List.getElem_cons_succ, Act.put, List.setIfInBounds_toArray, List.set_cons_zero, List.set_cons_succ]
                    refine wpAnyH_take (i := 6) (v := ?_) rfl (by kernel_rfl) (by kernel_rfl) (by kernel_rfl) (fun _ _ _ h => h) (Or.inl ⟨by rfl, ?_⟩) (Below.refl _ _) ?_
                    rotate_left
                    · intro wS hSw
                      go_simp
                      try with_reducible rfl
                    try simp only [List.getElem_toArray, List.getElem_cons_zero, List.getElem_cons_succ, Act.put, List.setIfInBounds_toArray, List.set_cons_zero, List.set_cons_succ]
                    refine wpAnyH_take (i := 10) (v := ?_) rfl (by kernel_rfl) (by kernel_rfl) (by kernel_rfl) (fun _ _ _ h => h) (Or.inl ⟨by rfl, ?_⟩) (Below.refl _ _) ?_
                    rotate_left
                    · intro wS hSw
                      go_simp
                      try with_reducible rfl
                    try simp only [List.getElem_toArray, List.getElem_cons_zero, List.getElem_cons_succ, Act.put, List.setIfInBounds_toArray, List.set_cons_zero, List.set_cons_succ]
                    refine wpAnyH_take (i := 11) (v := ?_) rfl (by kernel_rfl) (by kernel_rfl) (by kernel_rfl) (fun _ _ _ h => h) (Or.inl ⟨by rfl, ?_⟩) (Below.refl _ _) ?_
                    rotate_left
                    · intro wS hSw
                      go_simp
                      try with_reducible rfl
                    try simp only [List.getElem_toArray, List.getElem_cons_zero, List.getElem_cons_succ, Act.put, List.setIfInBounds_toArray, List.set_cons_zero, List.set_cons_succ]
                    refine wpAnyH_take (i := 12) (v := ?_) rfl (by kernel_rfl) (by kernel_rfl) (by kernel_rfl) (fun _ _ _ h => h) (Or.inl ⟨by rfl, ?_⟩) (Below.refl _ _) ?_
                    rotate_left
                    · intro wS hSw
                      go_simp
                      try with_reducible rfl
                    try simp only [List.getElem_toArray, List.getElem_cons_zero, List.getElem_cons_succ, Act.put, List.setIfInBounds_toArray, List.set_cons_zero, List.set_cons_succ]
                    refine wpAnyH_take (i := 3) (v := ?_) rfl (by kernel_rfl) (by kernel_rfl) (by kernel_rfl) (fun _ _ _ h => h) (Or.inl ⟨by rfl, ?_⟩) (Below.refl _ _) ?_
                    rotate_left
                    · intro wS hSw
                      have hcv := ((hSw.cell (p := ad5.add q) hg5).trans hd5)
                      go_simp
                      try with_reducible rfl
                    try simp only [List.getElem_toArray, List.getElem_cons_zero, List.getElem_cons_succ, Act.put, List.setIfInBounds_toArray, List.set_cons_zero, List.set_cons_succ]
                    refine wpAnyH_take (i := 7) (v := ?_) rfl (by kernel_rfl) (by kernel_rfl) (by kernel_rfl) (fun _ _ _ h => h) (Or.inl ⟨by rfl, ?_⟩) (Below.refl _ _) ?_
                    rotate_left
                    · intro wS hSw
                      have hcv := ((hSw.cell (p := ad6.add q) hg6).trans hd6)
                      go_simp
                      try with_reducible rfl
                    try simp only [List.getElem_toArray, List.getElem_cons_zero, List.getElem_cons_succ, Act.put, List.setIfInBounds_toArray, List.set_cons_zero, List.set_cons_succ]
                    refine wpAnyH_take (i := 13) (v := ?_) rfl (by kernel_rfl) (by kernel_rfl) (by kernel_rfl) (fun _ _ _ h => h) (Or.inl ⟨by rfl, ?_⟩) (Below.refl _ _) ?_
                    rotate_left
                    · intro wS hSw
                      have hcv := ((hSw.cell (p := ad7.add q) hg7).trans hd7)
                      go_simp
                      try with_reducible rfl
                    try simp only [List.getElem_toArray, List.getElem_cons_zero, List.getElem_cons_succ, Act.put, List.setIfInBounds_toArray, List.set_cons_zero, List.set_cons_succ]
                    refine wpAnyH_take (i := 14) (v := ?_) rfl (by kernel_rfl) (by kernel_rfl) (by kernel_rfl) (fun _ _ _ h => h) (Or.inl ⟨by rfl, ?_⟩) (Below.refl _ _) ?_
                    rotate_left
                    · intro wS hSw
                      have hcv := str_run (HT7.out.rd.drewN 1) (hSw.mono (Nat.le_refl _)) HZW.out HT7.out.len rc7
                      go_simp
                      try with_reducible rfl
                    try simp only [List.getElem_toArray, List.getElem_cons_zero, List.getElem_cons_succ, Act.put, List.setIfInBounds_toArray, List.set_cons_zero, List.set_cons_succ]
                    refine wpAnyH_ready (rs := [8]) (by kernel_rfl) (by simp) ?_
                    refine AllReadyH.cons rfl (fun K hK => ?_) AllReadyH.nil
                    go_simp
                    refine HADD.out.mono ?_
                    rintro e w9 ⟨A9, n9, c9, rfl, hn9, ho9, hb9⟩
                    have hr9 := Rd.of_own ho9
                    have he7 := (hb9.cell (p := ad7.add q) hg7).trans hd7
                    have he8 := (hb9.cell (p := ad8.add q) hg8).trans hd8
                    refine hK.out _ _ hb9 (fun _ => ?_)
                    clear hK K
                    try simp only [List.getElem_toArray, List.getElem_cons_zero, List.getElem_cons_succ, Act.put, List.setIfInBounds_toArray, List.set_cons_zero, List.set_cons_succ]
                    refine wpAnyH_strong (S2 := fun w' => Below (World.heap w9).size w9 w') (fun _ h => Below.via hb9 h) ?_
                    refine wpAnyH_take (i := 9) (v := ?_) rfl (by kernel_rfl) (by kernel_rfl) (by kernel_rfl) (fun _ _ _ h => h) (Or.inl ⟨by rfl, ?_⟩) (Below.refl _ _) ?_
                    rotate_left
                    · intro wS hSw
                      have hcv := str_run hr9 hSw (Nat.le_refl _) hn9 c9
                      go_simp
                      try with_reducible rfl
                    try simp only [List.getElem_toArray, List.getElem_cons_zero, List.getElem_cons_succ, Act.put, List.setIfInBounds_toArray, List.set_cons_zero, List.set_cons_succ]
                    refine wpAnyH_take (i := 15) (v := ?_) rfl (by kernel_rfl) (by kernel_rfl) (by kernel_rfl) (fun _ _ _ h => h) (Or.inl ⟨by rfl, ?_⟩) (Below.refl _ _) ?_
                    rotate_left
                    · intro wS hSw
                      go_simp
                      try with_reducible rfl
                    try simp only [List.getElem_toArray, List.getElem_cons_zero, List.getElem_cons_succ, Act.put, List.setIfInBounds_toArray, List.set_cons_zero, List.set_cons_succ]
                    refine wpAnyH_take (i := 16) (v := ?_) rfl (by kernel_rfl) (by kernel_rfl) (by kernel_rfl) (fun _ _ _ h => h) (Or.inl ⟨by rfl, ?_⟩) (Below.refl _ _) ?_
                    rotate_left
                    · intro wS hSw
                      go_simp
                      try with_reducible rfl
                    try simp only [List.getElem_toArray, List.getElem_cons_zero, List.getElem_cons_succ, Act.put, List.setIfInBounds_toArray, List.set_cons_zero, List.set_cons_succ]
                    refine wpAnyH_take (i := 17) (v := ?_) rfl (by kernel_rfl) (by kernel_rfl) (by kernel_rfl) (fun _ _ _ h => h) (Or.inl ⟨by rfl, ?_⟩) (Below.refl _ _) ?_
                    rotate_left
                    · intro wS hSw
                      go_simp
                      try with_reducible rfl
                    try simp only [List.getElem_toArray, List.getElem_cons_zero, List.getElem_cons_succ, Act.put, List.setIfInBounds_toArray, List.set_cons_zero, List.set_cons_succ]
                    refine wpAnyH_take (i := 18) (v := ?_) rfl (by kernel_rfl) (by kernel_rfl) (by kernel_rfl) (fun _ _ _ h => h) (Or.inl ⟨by rfl, ?_⟩) (Below.refl _ _) ?_
                    rotate_left
                    · intro wS hSw
                      go_simp
                      try with_reducible rfl
                    try simp only [List.getElem_toArray, List.getElem_cons_zero, List.getElem_cons_succ, Act.put, List.setIfInBounds_toArray, List.set_cons_zero, List.set_cons_succ]
                    refine wpAnyH_take (i := 19) (v := ?_) rfl (by kernel_rfl) (by kernel_rfl) (by kernel_rfl) (fun _ _ _ h => h) (Or.inl ⟨by rfl, ?_⟩) (Below.refl _ _) ?_
                    rotate_left
                    · intro wS hSw
                      go_simp
                      try with_reducible rfl
                    try simp only [List.getElem_toArray, List.getElem_cons_zero, List.getElem_cons_succ, Act.put, List.setIfInBounds_toArray, List.set_cons_zero, List.set_cons_succ]
                    refine wpAnyH_take (i := 22) (v := ?_) rfl (by kernel_rfl) (by kernel_rfl) (by kernel_rfl) (fun _ _ _ h => h) (Or.inl ⟨by rfl, ?_⟩) (Below.refl _ _) ?_
                    rotate_left
                    · intro wS hSw
                      go_simp
                      try with_reducible rfl
                    try simp only [List.getElem_toArray, List.getElem_cons_zero, List.getElem_cons_succ, Act.put, List.setIfInBounds_toArray, List.set_cons_zero, List.set_cons_succ]
                    refine wpAnyH_take (i := 20) (v := ?_) rfl (by kernel_rfl) (by kernel_rfl) (by kernel_rfl) (fun _ _ _ h => h) (Or.inl ⟨by rfl, ?_⟩) (Below.refl _ _) ?_
                    rotate_left
                    · intro wS hSw
                      have hcv := ((hSw.cell (p := ad7.add q) (Nat.lt_of_lt_of_le hg7 hb9.size)).trans he7)
                      go_simp
                      try with_reducible rfl
                    try simp only [List.getElem_toArray, List.getElem_cons_zero, List.getElem_cons_succ, Act.put, List.setIfInBounds_toArray, List.set_cons_zero, List.set_cons_succ]
                    refine wpAnyH_take (i := 21) (v := ?_) rfl (by kernel_rfl) (by kernel_rfl) (by kernel_rfl) (fun _ _ _ h => h) (Or.inl ⟨by rfl, ?_⟩) (Below.refl _ _) ?_
                    rotate_left
                    · intro wS hSw
                      go_simp
                      try with_reducible rfl
                    try simp only [List.getElem_toArray, List.getElem_cons_zero, List.getElem_cons_succ, Act.put, List.setIfInBounds_toArray, List.set_cons_zero, List.set_cons_succ]
                    refine wpAnyH_take (i := 23) (v := ?_) rfl (by kernel_rfl) (by kernel_rfl) (by kernel_rfl) (fun _ _ _ h => h) (Or.inl ⟨by rfl, ?_⟩) (Below.refl _ _) ?_
                    rotate_left
                    · intro wS hSw
                      go_simp
                      try with_reducible rfl
                    try simp only [List.getElem_toArray, List.getElem_cons_zero, List.getElem_cons_succ, Act.put, List.setIfInBounds_toArray, List.set_cons_zero, List.set_cons_succ]
                    refine wpAnyH_take (i := 24) (v := ?_) rfl (by kernel_rfl) (by kernel_rfl) (by kernel_rfl) (fun _ _ _ h => h) (Or.inl ⟨by rfl, ?_⟩) (Below.refl _ _) ?_
                    rotate_left
                    · intro wS hSw
                      go_simp
                      try with_reducible rfl
                    try simp only [List.getElem_toArray, List.getElem_cons_zero, List.getElem_cons_succ, Act.put, List.setIfInBounds_toArray, List.set_cons_zero, List.set_cons_succ]
                    refine wpAnyH_take (i := 25) (v := ?_) rfl (by kernel_rfl) (by kernel_rfl) (by kernel_rfl) (fun _ _ _ h => h) (Or.inl ⟨by rfl, ?_⟩) (Below.refl _ _) ?_
                    rotate_left
                    · intro wS hSw
                      go_simp
                      try with_reducible rfl
                    try simp only [List.getElem_toArray, List.getElem_cons_zero, List.getElem_cons_succ, Act.put, List.setIfInBounds_toArray, List.set_cons_zero, List.set_cons_succ]
                    refine wpAnyH_take (i := 26) (v := ?_) rfl (by kernel_rfl) (by kernel_rfl) (by kernel_rfl) (fun _ _ _ h => h) (Or.inl ⟨by rfl, ?_⟩) (Below.refl _ _) ?_
                    rotate_left
                    · intro wS hSw
                      go_simp
                      try with_reducible rfl
                    try simp only [List.getElem_toArray, List.getElem_cons_zero, List.getElem_cons_succ, Act.put, List.setIfInBounds_toArray, List.set_cons_zero, List.set_cons_succ]
                    refine wpAnyH_take (i := 27) (v := ?_) rfl (by kernel_rfl) (by kernel_rfl) (by kernel_rfl) (fun _ _ _ h => h) (Or.inl ⟨by rfl, ?_⟩) (Below.refl _ _) ?_
                    rotate_left
                    · intro wS hSw
                      go_simp
                      try with_reducible rfl
                    try simp only [List.getElem_toArray, List.getElem_cons_zero, List.getElem_cons_succ, Act.put, List.setIfInBounds_toArray, List.set_cons_zero, List.set_cons_succ]
                    refine wpAnyH_take (i := 28) (v := ?_) rfl (by kernel_rfl) (by kernel_rfl) (by kernel_rfl) (fun _ _ _ h => h) (Or.inl ⟨by rfl, ?_⟩) (Below.refl _ _) ?_
                    rotate_left
                    · intro wS hSw
                      go_simp
                      try with_reducible rfl
                    try simp only [List.getElem_toArray, List.getElem_cons_zero, List.getElem_cons_succ, Act.put, List.setIfInBounds_toArray, List.set_cons_zero, List.set_cons_succ]
                    refine wpAnyH_take (i := 29) (v := ?_) rfl (by kernel_rfl) (by kernel_rfl) (by kernel_rfl) (fun _ _ _ h => h) (Or.inl ⟨by rfl, ?_⟩) (Below.refl _ _) ?_
                    rotate_left
                    · intro wS hSw
                      have hcv := ((hSw.cell (p := ad8.add q) (Nat.lt_of_lt_of_le hg8 hb9.size)).trans he8)
                      go_simp
                      try with_reducible rfl
                    try simp only [List.getElem_toArray, List.getElem_cons_zero, List.getElem_cons_succ, Act.put, List.setIfInBounds_toArray, List.set_cons_zero, List.set_cons_succ]
                    refine wpAnyH_take (i := 30) (v := ?_) rfl (by kernel_rfl) (by kernel_rfl) (by kernel_rfl) (fun _ _ _ h => h) (Or.inl ⟨by rfl, ?_⟩) (Below.refl _ _) ?_
                    rotate_left
                    · intro wS hSw
                      go_simp
                      try with_reducible rfl
                    try simp only [List.getElem_toArray, List.getElem_cons_zero, List.getElem_cons_succ, Act.put, List.setIfInBounds_toArray, List.set_cons_zero, List.set_cons_succ]
                    refine wpAnyH_take (i := 31) (v := ?_) rfl (by kernel_rfl) (by kernel_rfl) (by kernel_rfl) (fun _ _ _ h => h) (Or.inl ⟨by rfl, ?_⟩) (Below.refl _ _) ?_
                    rotate_left
                    · intro wS hSw
                      go_simp
                      try with_reducible rfl
                    try simp only [List.getElem_toArray, List.getElem_cons_zero, List.getElem_cons_succ, Act.put, List.setIfInBounds_toArray, List.set_cons_zero, List.set_cons_succ]
                    refine wpAnyH_take (i := 32) (v := ?_) rfl (by kernel_rfl) (by kernel_rfl) (by kernel_rfl) (fun _ _ _ h => h) (Or.inl ⟨by rfl, ?_⟩) (Below.refl _ _) ?_
                    rotate_left
                    · intro wS hSw
                      go_simp
                      try with_reducible rfl
                    try simp only [List.getElem_toArray, List.getElem_cons_zero, List.getElem_cons_succ, Act.put, List.setIfInBounds_toArray, List.set_cons_zero, List.set_cons_succ]
                    refine wpAnyH_done (by kernel_rfl) ?_ _
                    have HB11 := Lib.hid (HBD.out.trans (hb9.mono HZW.out))
                    clear hb9 ho9 hr9
                    go_wp2
                    go_roundw
                    case rel => exact ⟨q + 1, by go_num, hlq, HB11⟩
                    case measure => simp [intOf]; omega
                  · obtain rfl : q = n8 := by omega
                    go_wp2_with fail
                    refine (codes _).mono ?_
                    rintro e w9 ⟨rfl, hb9⟩
                    have HB11 := Lib.hid (HB10.out.via hb9)
                    clear hb9
                    go_wp2
                    go_ret
                    exact ⟨rfl, HB11.out⟩
  · have HN0 := Lib.hid (fun p V => cdNew0 p k m hmay hk hm V)
    clear hmay hra hrb hna hnb
    go_enter Try.func4, Try.ntmps4
    go_wp2_with fail
    refine (fldNewA _).mono ?_
    rintro e w1 ⟨rfl, hf, hz, hb0⟩
    have HB1 := Lib.hid (hb0 w.heap.size w (Nat.le_refl _) (Below.refl _ _))
    clear hb0 hz hf
    go_wp2_with fail
    refine (HN0.out _ _).mono ?_
    rintro e w2 ⟨rfl, rfl⟩
    go_wp2_with fail
    refine (codes _).mono ?_
    rintro e w4 ⟨rfl, hb4⟩
    have HB4 := Lib.hid (HB1.out.via hb4)
    clear hb4
    go_wp2
    go_ret
    exact ⟨rfl, HB4.out⟩
end Cib
