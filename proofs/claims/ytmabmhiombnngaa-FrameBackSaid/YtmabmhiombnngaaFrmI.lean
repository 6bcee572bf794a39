/- A blob put as bytes; PutRecord. -/
import Derived.Test.YtmabmhiombnngaaFrmH
import Derived.Test.YtmabmhiombnngaaNumT
set_option linter.unusedVariables false
set_option linter.unusedSimpArgs false
set_option maxRecDepth 40000
namespace Cib
open Go Go.RowKit Go.Proofs
theorem vb_len (n : Nat) : (Num.vb n).length ≤ 10 := (Num.varB_length 9 n).2
theorem flat_len (l : List Int) : (l.flatMap fun p => Num.vb p.toNat).length ≤ l.length * 10 := by
  induction l with
  | nil => simp
  | cons x l ih =>
    have := vb_len x.toNat
    simp only [List.flatMap_cons, List.length_append, List.length_cons]
    omega
set_option maxHeartbeats 2000000 in
theorem blobPut (Ao : Option Addr) (no co : Nat) (os : List UInt8) (pl : List Int) (gen S : Nat) (A : Option Addr) (n k : Nat) (w : World) (ho : Rd w w.heap.size Ao (os.map bv)) (hlo : os.length = no) (hno : no ≤ 1000000) (h1 : Rd w w.heap.size A (pl.map (Value.int .i64))) (h2 : pl.length = n) (hn : n ≤ 1000) (hg : gen < 18446744073709551616) (hS : S ≤ 400) (hp : ∀ p ∈ pl, 0 ≤ p ∧ p < 600) :
    Calls Try.prog 22 #[.slice Ao no co, .agg #[.slice A n k, .int .u64 (gen : Int), .int .i64 (S : Int)]] w (NewB (os ++ Frm.blB ⟨pl, gen, (S : Int)⟩) w) := by
  have HAL := Lib.hid ((Below.refl w.heap.size w).alloc (Nat.le_refl _) (.cells #[.slice A n k, .int .u64 (gen : Int), .int .i64 (S : Int)] 55))
  have HM := Lib.hid (Blk.new w 55 #[.slice A n k, .int .u64 (gen : Int), .int .i64 (S : Int)])
  have HRO := Lib.hid ho
  have HLO := Lib.hid hlo
  have HRP := Lib.hid h1
  have HLP := Lib.hid h2
  have HPP := Lib.hid hp
  clear ho hlo h1 h2 hp
  unfold NewB
  obtain ⟨F, hF⟩ : ∃ F, os ++ Frm.blB ⟨pl, gen, (S : Int)⟩ = F := ⟨_, rfl⟩
  rw [hF]
  have HF0 : Hid (((os ++ Num.vb S) ++ Num.vb gen) ++ Num.vb n ++ (pl.flatMap fun p => Num.vb p.toNat) = F) := Lib.hid (by
    rw [← hF]
    unfold Frm.blB
    simp only [Int.toNat_natCast, HLP.out, List.append_assoc])
  clear hF
  go_enter Try.func22, Try.ntmps22
  have m0 := HM.out.cell 0
  have m1 := HM.out.cell 1
  have m2 := HM.out.cell 2
  simp only [List.getElem?_toArray, List.getElem?_cons_zero, List.getElem?_cons_succ] at m0 m1 m2
  go_wp2_with (at_builtin; go_loud (refine appB _ rfl (.const (.slice none 0 0)) (.tmp 9) rfl w.heap.size none 0 0 [] rfl (World.ownsRow_nil _ _ _ _) _ Ao no co (os.map bv) rfl (by rw [List.length_map]; exact HLO.out) (HRO.out.below HAL.out) one_bytes (by omega) HAL.out.size ?_; intro A1 c1 w1 ho1 hg1 hb1; rw [Nat.zero_add, List.nil_append] at ho1; rw [Nat.zero_add]; have HO1 := Lib.hid ho1; have HB1 := Lib.hid (HAL.out.trans hb1); have HM1 := Lib.hid (HM.out.same (Same.grown (ts := [5]) (World.ownsRow_nil _ w.heap.size 5 1) hg1 (by decide)) (by decide)); clear ho1 hg1 hb1; have m0 := HM1.out.cell 0; have m1 := HM1.out.cell 1; have m2 := HM1.out.cell 2; simp only [List.getElem?_toArray, List.getElem?_cons_zero, List.getElem?_cons_succ] at m0 m1 m2))
  have hlt1 := HM1.out.lt
  have hwS : IntKind.u64.wrap (S : Int) = (S : Int) := by rw [IntKind.wrap_u64]; omega
  have hwn : IntKind.u64.wrap (n : Int) = (n : Int) := by rw [IntKind.wrap_u64]; omega
  have HV1 := Lib.hid (vb_len S)
  have HV2 := Lib.hid (vb_len gen)
  have HV3 := Lib.hid (vb_len n)
  have HP1 := Lib.hid (Go.Proofs.Ytmabmhiombnngaa.numPutVar A1 c1 os S w1.drew w1.heap.size ((Rd.of_own HO1.out).drewN 1) HLO.out (Nat.le_refl _) (by omega) (by omega))
  have HP2 := Lib.hid fun A2 c2 n2 (W : World) (ho : W.ownsRow w1.heap.size 5 1 (.slice A2 n2 c2) n2 ((os ++ Num.vb S).map bv)) (hl : (os ++ Num.vb S).length = n2) => Go.Proofs.Ytmabmhiombnngaa.numPutVar A2 c2 (os ++ Num.vb S) gen W W.heap.size (Rd.of_own ho) hl (Nat.le_refl _) hg (by rw [← hl, List.length_append, HLO.out]; have := HV1.out; omega)
  have HP3 := Lib.hid fun A2 c2 n2 (b : Nat) (W : World) (ho : W.ownsRow b 5 1 (.slice A2 n2 c2) n2 ((os ++ Num.vb S ++ Num.vb gen).map bv)) (hl : (os ++ Num.vb S ++ Num.vb gen).length = n2) => Go.Proofs.Ytmabmhiombnngaa.numPutVar A2 c2 (os ++ Num.vb S ++ Num.vb gen) n W W.heap.size (Rd.of_own ho) hl (Nat.le_refl _) (by omega) (by rw [← hl, List.length_append, List.length_append, HLO.out]; have := HV1.out; have := HV2.out; omega)
  refine wp_region_held_drew (S := (fun wQq => Below (World.heap (w1.drew)).size (w1.drew) wQq)) (by kernel_rfl) (by exact Below.refl _ _) (fun _ => ?_)
  refine wpAnyH_take (i := 0) (v := ?_) rfl (by kernel_rfl) (by kernel_rfl) (by kernel_rfl) (fun _ _ _ h => h) (Or.inl ⟨by rfl, ?_⟩) (Below.refl _ _) ?_
  rotate_left
  · intro wS hSw
    go_simp
    try with_reducible rfl
  try simp only [List.getElem_toArray, List.getElem_cons_zero, List.getElem_cons_succ, Act.put, List.setIfInBounds_toArray, List.set_cons_zero, List.set_cons_succ]
  refine wpAnyH_take (i := 1) (v := ?_) rfl (by kernel_rfl) (by kernel_rfl) (by kernel_rfl) (fun _ _ _ h => h) (Or.inl ⟨by rfl, ?_⟩) (Below.refl _ _) ?_
  rotate_left
  · intro wS hSw
    go_simp
    try with_reducible rfl
  try simp only [List.getElem_toArray, List.getElem_cons_zero, List.getElem_cons_succ, Act.put, List.setIfInBounds_toArray, List.set_cons_zero, List.set_cons_succ]
  refine wpAnyH_take (i := 5) (v := ?_) rfl (by kernel_rfl) (by kernel_rfl) (by kernel_rfl) (fun _ _ _ h => h) (Or.inl ⟨by rfl, ?_⟩) (Below.refl _ _) ?_
  rotate_left
  · intro wS hSw
    go_simp
    try with_reducible rfl
  try simp only [List.getElem_toArray, List.getElem_cons_zero, List.getElem_cons_succ, Act.put, List.setIfInBounds_toArray, List.set_cons_zero, List.set_cons_succ]
  refine wpAnyH_take (i := 8) (v := ?_) rfl (by kernel_rfl) (by kernel_rfl) (by kernel_rfl) (fun _ _ _ h => h) (Or.inl ⟨by rfl, ?_⟩) (Below.refl _ _) ?_
  rotate_left
  · intro wS hSw
    go_simp
    try with_reducible rfl
  try simp only [List.getElem_toArray, List.getElem_cons_zero, List.getElem_cons_succ, Act.put, List.setIfInBounds_toArray, List.set_cons_zero, List.set_cons_succ]
  refine wpAnyH_take (i := 2) (v := ?_) rfl (by kernel_rfl) (by kernel_rfl) (by kernel_rfl) (fun _ _ _ h => h) (Or.inl ⟨by rfl, ?_⟩) (Below.refl _ _) ?_
  rotate_left
  · intro wS hSw
    have hcv := ((hSw.cell (p := ⟨w.heap.size, 2, none⟩) (by exact hlt1)).trans m2)
    go_simp
    try with_reducible rfl
  try simp only [List.getElem_toArray, List.getElem_cons_zero, List.getElem_cons_succ, Act.put, List.setIfInBounds_toArray, List.set_cons_zero, List.set_cons_succ]
  refine wpAnyH_take (i := 3) (v := ?_) rfl (by kernel_rfl) (by kernel_rfl) (by kernel_rfl) (fun _ _ _ h => h) (Or.inl ⟨by rfl, ?_⟩) (Below.refl _ _) ?_
  rotate_left
  · intro wS hSw
    have hcv := True.intro
    go_simp
    try with_reducible rfl
  try simp only [List.getElem_toArray, List.getElem_cons_zero, List.getElem_cons_succ, Act.put, List.setIfInBounds_toArray, List.set_cons_zero, List.set_cons_succ]
  refine wpAnyH_take (i := 6) (v := ?_) rfl (by kernel_rfl) (by kernel_rfl) (by kernel_rfl) (fun _ _ _ h => h) (Or.inl ⟨by rfl, ?_⟩) (Below.refl _ _) ?_
  rotate_left
  · intro wS hSw
    have hcv := ((hSw.cell (p := ⟨w.heap.size, 1, none⟩) (by exact hlt1)).trans m1)
    go_simp
    try with_reducible rfl
  try simp only [List.getElem_toArray, List.getElem_cons_zero, List.getElem_cons_succ, Act.put, List.setIfInBounds_toArray, List.set_cons_zero, List.set_cons_succ]
  refine wpAnyH_take (i := 9) (v := ?_) rfl (by kernel_rfl) (by kernel_rfl) (by kernel_rfl) (fun _ _ _ h => h) (Or.inl ⟨by rfl, ?_⟩) (Below.refl _ _) ?_
  rotate_left
  · intro wS hSw
    have hcv := ((hSw.cell (p := ⟨w.heap.size, 0, none⟩) (by exact hlt1)).trans m0)
    go_simp
    try with_reducible rfl
  try simp only [List.getElem_toArray, List.getElem_cons_zero, List.getElem_cons_succ, Act.put, List.setIfInBounds_toArray, List.set_cons_zero, List.set_cons_succ]
  refine wpAnyH_take (i := 10) (v := ?_) rfl (by kernel_rfl) (by kernel_rfl) (by kernel_rfl) (fun _ _ _ h => h) (Or.inl ⟨by rfl, ?_⟩) (Below.refl _ _) ?_
  rotate_left
  · intro wS hSw
    go_simp
    try with_reducible rfl
  try simp only [List.getElem_toArray, List.getElem_cons_zero, List.getElem_cons_succ, Act.put, List.setIfInBounds_toArray, List.set_cons_zero, List.set_cons_succ]
  refine wpAnyH_take (i := 11) (v := ?_) rfl (by kernel_rfl) (by kernel_rfl) (by kernel_rfl) (fun _ _ _ h => h) (Or.inl ⟨by rfl, ?_⟩) (Below.refl _ _) ?_
  rotate_left
  · intro wS hSw
    have hcv := True.intro
    go_simp
    try with_reducible rfl
  try simp only [List.getElem_toArray, List.getElem_cons_zero, List.getElem_cons_succ, Act.put, List.setIfInBounds_toArray, List.set_cons_zero, List.set_cons_succ]
  refine wpAnyH_ready (rs := [4]) (by kernel_rfl) (by simp) ?_
  refine AllReadyH.cons rfl (fun K hK => ?_) AllReadyH.nil
  go_simp
  refine HP1.out.mono ?_
  rintro e w2 ⟨A2, n2, c2, rfl, hn2, ho2, hb2⟩
  refine hK.out _ _ hb2 (fun _ => ?_)
  clear hK K
  try simp only [List.getElem_toArray, List.getElem_cons_zero, List.getElem_cons_succ, Act.put, List.setIfInBounds_toArray, List.set_cons_zero, List.set_cons_succ]
  refine wpAnyH_strong (S2 := fun w' => Below (World.heap w2).size w2 w') (fun _ h => Below.via hb2 h) ?_
  refine wpAnyH_ready (rs := [7]) (by kernel_rfl) (by simp) ?_
  refine AllReadyH.cons rfl (fun K hK => ?_) AllReadyH.nil
  go_simp
  refine (HP2.out A2 c2 n2 w2 ho2 hn2).mono ?_
  rintro e w3 ⟨A3, n3, c3, rfl, hn3, ho3, hb3⟩
  refine hK.out _ _ hb3 (fun _ => ?_)
  clear hK K
  try simp only [List.getElem_toArray, List.getElem_cons_zero, List.getElem_cons_succ, Act.put, List.setIfInBounds_toArray, List.set_cons_zero, List.set_cons_succ]
  refine wpAnyH_strong (S2 := fun w' => Below (World.heap w3).size w3 w') (fun _ h => Below.via hb3 h) ?_
  refine wpAnyH_ready (rs := [12]) (by kernel_rfl) (by simp) ?_
  refine AllReadyH.cons rfl (fun K hK => ?_) AllReadyH.nil
  go_simp
  refine (HP3.out A3 c3 n3 w2.heap.size w3 ho3 hn3).mono ?_
  rintro e w4 ⟨A4, n4, c4, rfl, hn4, ho4, hb4⟩
  refine hK.out _ _ hb4 (fun _ => ?_)
  clear hK K
  try simp only [List.getElem_toArray, List.getElem_cons_zero, List.getElem_cons_succ, Act.put, List.setIfInBounds_toArray, List.set_cons_zero, List.set_cons_succ]
  refine wpAnyH_strong (S2 := fun w' => Below (World.heap w4).size w4 w') (fun _ h => Below.via hb4 h) ?_
  refine wpAnyH_take (i := 13) (v := ?_) rfl (by kernel_rfl) (by kernel_rfl) (by kernel_rfl) (fun _ _ _ h => h) (Or.inl ⟨by rfl, ?_⟩) (Below.refl _ _) ?_
  rotate_left
  · intro wS hSw
    go_simp
    try with_reducible rfl
  try simp only [List.getElem_toArray, List.getElem_cons_zero, List.getElem_cons_succ, Act.put, List.setIfInBounds_toArray, List.set_cons_zero, List.set_cons_succ]
  refine wpAnyH_done (by kernel_rfl) ?_ _
  have HB4 := Lib.hid (((((below_drewN HB1.out 1).trans (hb2.mono HB1.out.size)).via hb3)).via hb4)
  have HO4 := Lib.hid (own_lower1 ho4 (Nat.le_trans HB1.out.size (Nat.le_trans hb2.size hb3.size)))
  have HN4 := Lib.hid hn4
  have hn4b : n4 ≤ no + 30 := by
    rw [← hn4, List.length_append, List.length_append, List.length_append, HLO.out]
    have := HV1.out
    have := HV2.out
    have := HV3.out
    omega
  have hm4 : w4.cell? ⟨w.heap.size, 0, none⟩ = some (.slice A n k) := (hb4.cell (p := ⟨w.heap.size, 0, none⟩) (Nat.lt_of_lt_of_le hlt1 (Nat.le_trans hb2.size hb3.size))).trans ((hb3.cell (p := ⟨w.heap.size, 0, none⟩) (Nat.lt_of_lt_of_le hlt1 hb2.size)).trans ((hb2.cell (p := ⟨w.heap.size, 0, none⟩) hlt1).trans m0))
  generalize os ++ Num.vb S ++ Num.vb gen ++ Num.vb n = B0 at *
  clear hn2 ho2 hb2 hn3 ho3 hb3 hn4 ho4 hb4 m0 m1 m2 HP1 HP2 HP3 HO1 HB1 HM1 HV1 HV2 HV3 hwS hwn
  go_wp2
  go_loopw [6, 8, 31] (fun o _ i wr => ∃ (p : Nat) (Ax : Option Addr) (nx cx : Nat) (bs : List UInt8), i = .int .i64 p ∧ p ≤ n ∧ o = .slice Ax nx cx ∧ nx ≤ no + 30 + p * 10 ∧ Hid (bs.length = nx) ∧ Hid (bs ++ ((pl.drop p).flatMap fun p => Num.vb p.toNat) = F) ∧ Hid (wr.ownsRow w.heap.size 5 1 (.slice Ax nx cx) nx (bs.map bv)) ∧ Hid (Below w.heap.size w wr)) (fun _ _ i _ => n - (intOf i).toNat)
  case atStart => exact ⟨0, A4, n4, c4, B0, rfl, Nat.zero_le _, rfl, by omega, HN4, HF0, HO4, HB4⟩
  case round =>
    clear HB4 HO4 HN4 HF0 hm4
    obtain ⟨p, Ax, nx, cx, bs, rfl, hp, rfl, hnx, HNX, HFX, HOX, HBX⟩ := hrel
    by_cases hlt : p < n
    · have hpl : p < pl.length := by rw [HLP.out]; exact hlt
      obtain ⟨ad, rfl, hab, hcx⟩ := rd_i64 (HRP.out.below HBX.out) hpl
      have HME := HPP.out _ (List.getElem_mem hpl)
      have HFX2 : Hid ((bs ++ Num.vb pl[p].toNat) ++ ((pl.drop (p + 1)).flatMap fun p => Num.vb p.toNat) = F) := Lib.hid (by
        rw [← HFX.out, List.drop_eq_getElem_cons hpl, List.flatMap_cons, List.append_assoc])
      generalize pl[p] = x at *
      obtain ⟨X, rfl⟩ := Int.eq_ofNat_of_zero_le HME.1
      rw [Int.toNat_natCast] at HFX2
      have hX6 : X < 600 := by omega
      have hwX : IntKind.u64.wrap (X : Int) = (X : Int) := by rw [IntKind.wrap_u64]; omega
      have HPV := Lib.hid (Go.Proofs.Ytmabmhiombnngaa.numPutVar Ax cx bs X wr wr.heap.size (Rd.of_own HOX.out) HNX.out (Nat.le_refl _) (by omega) (by omega))
      have HV := Lib.hid (vb_len X)
      clear HME hpl HFX
      go_wp2_with fail
      refine HPV.out.mono ?_
      rintro e w5 ⟨A5, n5, c5, rfl, hn5, ho5, hb5⟩
      have HN5 := Lib.hid hn5
      have hn5b : n5 ≤ no + 30 + (p + 1) * 10 := by
        rw [← hn5, List.length_append, HNX.out]
        have := HV.out
        omega
      have HO5 := Lib.hid (own_lower1 ho5 HBX.out.size)
      have HB5 := Lib.hid (HBX.out.via hb5)
      clear hn5 ho5 hb5 HPV HV
      go_wp2
      go_roundw
      case rel => exact ⟨p + 1, A5, n5, c5, _, by go_num, hlt, rfl, hn5b, HN5, HFX2, HO5, HB5⟩
      case measure => simp [intOf]; omega
    · obtain rfl : p = n := by omega
      have hF := HFX.out
      rw [List.drop_of_length_le (by rw [HLP.out]; exact Nat.le_refl _), List.flatMap_nil, List.append_nil] at hF
      subst hF
      clear HFX
      go_wp2
      go_ret
      exact ⟨Ax, nx, cx, rfl, HNX.out, HOX.out, HBX.out⟩
theorem blB_len {b : Frm.Blb} (h : Frm.where_ b.places = true) : (Frm.blB b).length ≤ 4100 := by
  unfold Frm.where_ at h
  rw [Bool.and_eq_true, decide_eq_true_iff, decide_eq_true_iff] at h
  unfold Frm.blB
  have := vb_len b.size.toNat
  have := vb_len b.gen
  have := vb_len b.places.length
  have := flat_len b.places
  simp only [List.length_append]
  omega
theorem chB_len {c : Frm.Chg} (h : Frm.fits c = true) : (Frm.chB c).length ≤ 4200 := by
  unfold Frm.fits at h
  simp only [Bool.and_eq_true, decide_eq_true_iff] at h
  obtain ⟨⟨⟨⟨⟨_, _⟩, h3⟩, _⟩, _⟩, h6⟩ := h
  have := blB_len h6
  have := vb_len c.key.size
  have hk : c.key.data.toList.length = c.key.size := by rw [Array.length_toList]; rfl
  unfold Frm.chB
  simp only [List.length_append]
  split <;> simp <;> omega
theorem right_fits {key : ByteArray} : ∀ {cs : List Frm.Chg}, Frm.rightFrom key cs = true → ∀ c ∈ cs, Frm.fits c = true
  | [], _, c, hc => by cases hc
  | x :: cs, h, c, hc => by
    rw [Frm.rightFrom, Bool.and_eq_true, Bool.and_eq_true] at h
    rcases List.mem_cons.1 hc with rfl | hc
    · exact h.1.1
    · exact right_fits h.2 c hc
theorem wp_appB {w : World} {o : Oper} {a : Act} {K : Act → World → Prop} {Q : Exit → Act → World → Prop} (s x : Operand)
    (ho : o.op = .call { callee := .builtin .append, args := #[s, x], argTypes := #[26, 26] })
    (base : Nat) (A0 : Option Addr) (n0 c0 : Nat) (xs : List Value) (hs : a.eval s = .slice A0 n0 c0) (hown : w.ownsRow base 5 1 (.slice A0 n0 c0) n0 xs)
    (B : Nat) (A : Option Addr) (m c : Nat) (news : List Value) (hx : a.eval x = .slice A m c) (hm : news.length = m) (hr : Rd w B A news) (h1 : ∀ u ∈ news, u.oneCell' = true)
    (hbytes : n0 + m ≤ 140737488355328) (hbase : base ≤ w.heap.size)
    (h : ∀ A' c' w', w'.ownsRow base 5 1 (.slice A' (n0 + m) c') (n0 + m) (xs ++ news) → w.grownBy w' (Value.slice A0 n0 c0).ownBlock → Below base w w' → K (a.put o.dst (.slice A' (n0 + m) c')) w') :
    o.wp Try.prog a w K Q := by
  obtain ⟨i0, hi, hz0, hz1, hz2⟩ := info_parts infoByte
  obtain ⟨A', c', w', hrun, h2, h3, h4⟩ := run_app (P := Try.prog) w base 26 o.type 5 i0 _ 1 Try.underlying26 hi hz0 hz1 hz2 rfl A0 n0 c0 xs hown B A m c news hm hr h1 (by unfold maxLen; omega) (by omega) hbase
  unfold Oper.wp execOp
  simp only [ho, resolve, invoke, builtin, Sem.run_bind, Sem.run_pure, Result.andThen_ok, List.map_toArray, List.map_cons, List.map_nil, hs, hx, hrun]
  exact h A' c' w' h2 h3 h4
/-- What PutRecord answers. -/
def PutR (r : Frm.Rcd) (w : World) (e : Ending) (w' : World) : Prop :=
  (Frm.right r = true ∧ ∃ A n c, e = .returned (.tuple #[.slice A n c, .int .i64 0]) ∧ (Frm.recB r).length = n ∧ n ≤ 100000 ∧ w'.ownsRow w.heap.size 5 1 (.slice A n c) n ((Frm.recB r).map bv) ∧ Below w.heap.size w w') ∨
    (Frm.right r = false ∧ e = .returned (.tuple #[.slice none 0 0, .int .i64 2]) ∧ Below w.heap.size w w')
set_option maxHeartbeats 2000000 in
theorem frmPut (st : Nat) (A : Option Addr) (n k : Nat) (X : List CgM) (w : World) (h : Rd w w.heap.size A (X.map CgM.row).flatten) (hX : ∀ x ∈ X, x.At w w.heap.size) (hl : X.length = n) (hn : n ≤ 140737488355328) (hst : st < 18446744073709551616) :
    Calls Try.prog 9 #[.agg #[.int .u64 (st : Int), .slice A n k]] w (PutR ⟨st, X.map (·.c)⟩ w) := by
  have hal := (Below.refl w.heap.size w).alloc (Nat.le_refl _) (.cells #[.int .u64 (st : Int), .slice A n k] 25)
  have HAL := Lib.hid hal
  have HM := Lib.hid (Blk.new w 25 #[.int .u64 (st : Int), .slice A n k])
  have HRI := Lib.hid (frmRight st A n k X (w.alloc (.cells #[.int .u64 (st : Int), .slice A n k] 25)) ((h.below hal).more hal.size) (fun x hx => ((hX x hx).below hal).more hal.size) hl hn)
  have HRD := Lib.hid h
  have HXX := Lib.hid hX
  have HL := Lib.hid hl
  unfold PutR
  obtain ⟨r, hr⟩ : ∃ r, Frm.right ⟨st, X.map (·.c)⟩ = r := ⟨_, rfl⟩
  rw [hr] at HRI ⊢
  have HRT := Lib.hid hr
  obtain ⟨F, hF⟩ : ∃ F, Frm.recB ⟨st, X.map (·.c)⟩ = F := ⟨_, rfl⟩
  rw [hF]
  have HF0 := Lib.hid hF
  clear hF
  clear h hX hl hr hal
  go_enter Try.func9, Try.ntmps9
  go_wp2_with fail
  refine HRI.out.mono ?_
  rintro e w1 ⟨rfl, hb1⟩
  have HB1 := Lib.hid (HAL.out.via hb1)
  have HM1 := Lib.hid (HM.out.below hb1 HM.out.lt)
  clear hb1 HAL HM HRI
  cases r
  · go_wp2
    first | go_ret2 | go_ret
    exact ⟨rfl, HB1.out⟩
  · have hR := HRT.out
    unfold Frm.right at hR
    rw [Bool.and_eq_true, decide_eq_true_iff, List.length_map, HL.out] at hR
    have HFT := Lib.hid (right_fits hR.1)
    have hn16 : n ≤ 16 := hR.2
    clear hR HRT
    have m0 := HM1.out.cell 0
    have m1 := HM1.out.cell 1
    simp only [List.getElem?_toArray, List.getElem?_cons_zero, List.getElem?_cons_succ] at m0 m1
    have hwn : IntKind.u64.wrap (n : Int) = (n : Int) := by rw [IntKind.wrap_u64]; omega
    have hlt1 := HM1.out.lt
    have HV1 := Lib.hid (vb_len st)
    have HV2 := Lib.hid (vb_len n)
    have HF : Hid ((Num.vb st ++ Num.vb n) ++ (X.map (·.c)).flatMap Frm.chB = F) := Lib.hid (by
      rw [← HF0.out]
      unfold Frm.recB
      simp only [List.length_map, HL.out, List.append_assoc])
    clear HF0
    go_wp2_with fail
    refine wp_region_held_drew (S := (fun wQq => Below (World.heap (w1.drew)).size (w1.drew) wQq)) (by kernel_rfl) (by exact Below.refl _ _) (fun _ => ?_)
    refine wpAnyH_take (i := 0) (v := ?_) rfl (by kernel_rfl) (by kernel_rfl) (by kernel_rfl) (fun _ _ _ h => h) (Or.inl ⟨by rfl, ?_⟩) (Below.refl _ _) ?_
    rotate_left
    · intro wS hSw
      go_simp
      try with_reducible rfl
    try simp only [List.getElem_toArray, List.getElem_cons_zero, List.getElem_cons_succ, Act.put, List.setIfInBounds_toArray, List.set_cons_zero, List.set_cons_succ]
    refine wpAnyH_take (i := 3) (v := ?_) rfl (by kernel_rfl) (by kernel_rfl) (by kernel_rfl) (fun _ _ _ h => h) (Or.inl ⟨by rfl, ?_⟩) (Below.refl _ _) ?_
    rotate_left
    · intro wS hSw
      go_simp
      try with_reducible rfl
    try simp only [List.getElem_toArray, List.getElem_cons_zero, List.getElem_cons_succ, Act.put, List.setIfInBounds_toArray, List.set_cons_zero, List.set_cons_succ]
    refine wpAnyH_take (i := 1) (v := ?_) rfl (by kernel_rfl) (by kernel_rfl) (by kernel_rfl) (fun _ _ _ h => h) (Or.inl ⟨by rfl, ?_⟩) (Below.refl _ _) ?_
    rotate_left
    · intro wS hSw
      have hcv := ((hSw.cell (p := ⟨w.heap.size, 0, none⟩) (by exact hlt1)).trans m0)
      go_simp
      try with_reducible rfl
    try simp only [List.getElem_toArray, List.getElem_cons_zero, List.getElem_cons_succ, Act.put, List.setIfInBounds_toArray, List.set_cons_zero, List.set_cons_succ]
    refine wpAnyH_take (i := 4) (v := ?_) rfl (by kernel_rfl) (by kernel_rfl) (by kernel_rfl) (fun _ _ _ h => h) (Or.inl ⟨by rfl, ?_⟩) (Below.refl _ _) ?_
    rotate_left
    · intro wS hSw
      have hcv := ((hSw.cell (p := ⟨w.heap.size, 1, none⟩) (by exact hlt1)).trans m1)
      go_simp
      try with_reducible rfl
    try simp only [List.getElem_toArray, List.getElem_cons_zero, List.getElem_cons_succ, Act.put, List.setIfInBounds_toArray, List.set_cons_zero, List.set_cons_succ]
    refine wpAnyH_take (i := 5) (v := ?_) rfl (by kernel_rfl) (by kernel_rfl) (by kernel_rfl) (fun _ _ _ h => h) (Or.inl ⟨by rfl, ?_⟩) (Below.refl _ _) ?_
    rotate_left
    · intro wS hSw
      go_simp
      try with_reducible rfl
    try simp only [List.getElem_toArray, List.getElem_cons_zero, List.getElem_cons_succ, Act.put, List.setIfInBounds_toArray, List.set_cons_zero, List.set_cons_succ]
    refine wpAnyH_take (i := 6) (v := ?_) rfl (by kernel_rfl) (by kernel_rfl) (by kernel_rfl) (fun _ _ _ h => h) (Or.inl ⟨by rfl, ?_⟩) (Below.refl _ _) ?_
    rotate_left
    · intro wS hSw
      have hcv := True.intro
      go_simp
      try with_reducible rfl
    try simp only [List.getElem_toArray, List.getElem_cons_zero, List.getElem_cons_succ, Act.put, List.setIfInBounds_toArray, List.set_cons_zero, List.set_cons_succ]
    refine wpAnyH_ready (rs := [2]) (by kernel_rfl) (by simp) ?_
    refine AllReadyH.cons rfl (fun K hK => ?_) AllReadyH.nil
    go_simp
    refine (Go.Proofs.Ytmabmhiombnngaa.numPutVar none 0 [] st w1.drew 0 (Rd.nil _ _ _) (len := 0) rfl (Nat.zero_le _) hst (by decide)).mono ?_
    rintro e w2 ⟨A2, n2, c2, rfl, hn2, ho2, hb2⟩
    rw [List.nil_append] at hn2 ho2
    refine hK.out _ _ hb2 (fun _ => ?_)
    clear hK K
    try simp only [List.getElem_toArray, List.getElem_cons_zero, List.getElem_cons_succ, Act.put, List.setIfInBounds_toArray, List.set_cons_zero, List.set_cons_succ]
    refine wpAnyH_strong (S2 := fun w' => Below (World.heap w2).size w2 w') (fun _ h => Below.via hb2 h) ?_
    refine wpAnyH_ready (rs := [7]) (by kernel_rfl) (by simp) ?_
    refine AllReadyH.cons rfl (fun K hK => ?_) AllReadyH.nil
    go_simp
    refine (Go.Proofs.Ytmabmhiombnngaa.numPutVar A2 c2 (Num.vb st) n w2 w2.heap.size (Rd.of_own ho2) hn2 (Nat.le_refl _) (by omega) (by rw [← hn2]; have := HV1.out; omega)).mono ?_
    rintro e w3 ⟨A3, n3, c3, rfl, hn3, ho3, hb3⟩
    refine hK.out _ _ hb3 (fun _ => ?_)
    clear hK K
    try simp only [List.getElem_toArray, List.getElem_cons_zero, List.getElem_cons_succ, Act.put, List.setIfInBounds_toArray, List.set_cons_zero, List.set_cons_succ]
    refine wpAnyH_strong (S2 := fun w' => Below (World.heap w3).size w3 w') (fun _ h => Below.via hb3 h) ?_
    refine wpAnyH_take (i := 8) (v := ?_) rfl (by kernel_rfl) (by kernel_rfl) (by kernel_rfl) (fun _ _ _ h => h) (Or.inl ⟨by rfl, ?_⟩) (Below.refl _ _) ?_
    rotate_left
    · intro wS hSw
      go_simp
      try with_reducible rfl
    try simp only [List.getElem_toArray, List.getElem_cons_zero, List.getElem_cons_succ, Act.put, List.setIfInBounds_toArray, List.set_cons_zero, List.set_cons_succ]
    refine wpAnyH_done (by kernel_rfl) ?_ _
    have HB3 := Lib.hid (((below_drewN HB1.out 1).trans (hb2.mono HB1.out.size)).via hb3)
    have HO3 := Lib.hid (own_lower1 ho3 (Nat.le_trans HB1.out.size hb2.size))
    have HN3 := Lib.hid hn3
    have hn3b : n3 ≤ 20 := by
      rw [← hn3, List.length_append]
      have := HV1.out
      have := HV2.out
      omega
    have HM3 := Lib.hid (((HM1.out.below (below_drewN (Below.refl _ _) 1) hlt1).below hb2 hlt1).below hb3 (Nat.lt_of_lt_of_le hlt1 hb2.size))
    have m2 := HM3.out.cell 1
    simp only [List.getElem?_toArray, List.getElem?_cons_zero, List.getElem?_cons_succ] at m2
    generalize Num.vb st ++ Num.vb n = B0 at *
    clear hn2 ho2 hb2 hn3 ho3 hb3 m0 m1 HB1 HM1 HV1 HV2 hwn hlt1
    go_wp2
    go_loopw [4, 6, 21] (fun o _ i wr => ∃ (p : Nat) (Ax : Option Addr) (nx cx : Nat) (bs : List UInt8), i = .int .i64 p ∧ p ≤ n ∧ o = .slice Ax nx cx ∧ nx ≤ 20 + p * 4200 ∧ Hid (bs.length = nx) ∧ Hid (bs ++ ((X.map (·.c)).drop p).flatMap Frm.chB = F) ∧ Hid (wr.ownsRow w.heap.size 5 1 (.slice Ax nx cx) nx (bs.map bv)) ∧ Hid (Below w.heap.size w wr)) (fun _ _ i _ => n - (intOf i).toNat)
    case atStart => exact ⟨0, A3, n3, c3, B0, rfl, Nat.zero_le _, rfl, by omega, HN3, HF, HO3, HB3⟩
    case round =>
      clear HB3 HO3 HN3 HF HM3 m2
      obtain ⟨p, Ax, nx, cx, bs, rfl, hp, rfl, hnx, HNX, HFX, HOX, HBX⟩ := hrel
      by_cases hlt : p < n
      · have hpl : p < X.length := by rw [HL.out]; exact hlt
        obtain ⟨b, off, rfl, hbB, c0, c1, c2', c3', c4⟩ := cg_at (HRD.out.below HBX.out) hpl
        have hx := HXX.out _ (List.getElem_mem hpl)
        have hft := HFT.out X[p].c (List.mem_map.2 ⟨X[p], List.getElem_mem hpl, rfl⟩)
        have HFX2 : Hid ((bs ++ Frm.chB X[p].c) ++ ((X.map (·.c)).drop (p + 1)).flatMap Frm.chB = F) := Lib.hid (by
          rw [← HFX.out, List.drop_eq_getElem_cons (i := p) (by rw [List.length_map]; exact hpl), List.flatMap_cons, List.getElem_map, List.append_assoc])
        have HCL := Lib.hid (chB_len hft)
        generalize X[p] = x at *
        obtain ⟨⟨key, dead, pl, gen, size⟩, xA, xn, xk⟩ := x
        obtain ⟨h1, h2, h3, h4, h5, h6⟩ := hx
        simp only at c0 c1 c2' c3' c4 h1 h2 h3 h4 h5 h6
        have hft2 := hft
        unfold Frm.fits at hft2
        simp only [Bool.and_eq_true, decide_eq_true_iff] at hft2
        obtain ⟨⟨⟨⟨⟨_, k1⟩, k2⟩, k3⟩, k4⟩, k5⟩ := hft2
        obtain ⟨S, rfl⟩ := Int.eq_ofNat_of_zero_le k3
        unfold Frm.where_ at k5
        rw [Bool.and_eq_true, decide_eq_true_iff, decide_eq_true_iff] at k5
        have HR1 := Lib.hid h1
        have HL1 := Lib.hid h2
        have HK5 := Lib.hid k5.1
        have hxn : xn ≤ 400 := by omega
        have hS4 : S ≤ 400 := by omega
        clear hpl hft HFX h1 h2 k5 k3 k4 h6
        have hal : Below wr.heap.size wr (wr.alloc (.cells #[.string key, .bool dead, .slice xA xn xk, .int .u64 (gen : Int), .int .i64 (S : Int)] 57)) := (Below.refl _ _).alloc (Nat.le_refl _) _
        have HB2 := Lib.hid (HBX.out.via hal)
        have HO2 := Lib.hid (own_via HOX.out hal)
        have HX2 := Lib.hid (Blk.new wr 57 #[.string key, .bool dead, .slice xA xn xk, .int .u64 (gen : Int), .int .i64 (S : Int)])
        go_upto_region 7 with fail
        generalize wr.alloc _ = w2 at *
        generalize wr.heap.size = g at *
        clear c0 c1 c2' c3' c4 hal HBX HOX
        have d0 := HX2.out.cell 0
        simp only [List.getElem?_toArray, List.getElem?_cons_zero, List.getElem?_cons_succ] at d0
        have HPT := Lib.hid (Go.Proofs.Ytmabmhiombnngaa.numPutText Ax cx bs key w2 w2.heap.size (Rd.of_own HO2.out) HNX.out (Nat.le_refl _) (by omega))
        go_wp2_with fail
        refine HPT.out.mono ?_
        rintro e w3 ⟨A3, n3, c3, rfl, hn3, ho3, hb3⟩
        have HB3 := Lib.hid (HB2.out.via hb3)
        have HO3 := Lib.hid (own_lower1 ho3 HB2.out.size)
        have HN3 := Lib.hid hn3
        have HX3 := Lib.hid (HX2.out.below hb3 HX2.out.lt)
        have d1 := HX3.out.cell 1
        simp only [List.getElem?_toArray, List.getElem?_cons_zero, List.getElem?_cons_succ] at d1
        have hsz3 := HB3.out.size
        have hn3b : n3 ≤ nx + 10 + 16 := by
          rw [← hn3]
          unfold Num.text
          have hk : key.data.toList.length = key.size := by rw [Array.length_toList]; rfl
          have := vb_len key.data.toList.length
          simp only [List.length_append, HNX.out]
          omega
        have hTX : Num.text bs key.data.toList = bs ++ (Num.vb key.size ++ key.data.toList) := by
          unfold Num.text
          rw [Array.length_toList]
          rfl
        rw [hTX] at HO3 HN3
        clear hn3 ho3 hb3 HPT HO2 HB2 d0 hTX
        obtain ⟨T, hT⟩ : ∃ T, bs ++ (Num.vb key.size ++ key.data.toList) = T := ⟨_, rfl⟩
        rw [hT] at HO3 HN3
        have HT := Lib.hid hT
        clear hT
        cases dead
        · have HX3d : Hid (Blk w3.drew g 57 #[.string key, .bool false, .slice xA xn xk, .int .u64 (gen : Int), .int .i64 (S : Int)]) := Lib.hid HX3.out
          have HO3d : Hid (w3.drew.ownsRow w.heap.size 5 1 (.slice A3 n3 c3) n3 (T.map bv)) := Lib.hid HO3.out
          have HB3d : Hid (Below w.heap.size w w3.drew) := Lib.hid (below_drewN HB3.out 1)
          have HCB : Hid (bs ++ Frm.chB ⟨key, false, ⟨pl, gen, (S : Int)⟩⟩ = (T ++ [0]) ++ Frm.blB ⟨pl, gen, (S : Int)⟩) := Lib.hid (by
            rw [← HT.out]
            unfold Frm.chB
            simp)
          rw [HCB.out] at HFX2
          have hn7b : ((T ++ [0]) ++ Frm.blB ⟨pl, gen, (S : Int)⟩).length ≤ nx + 4200 := by
            rw [← HCB.out, List.length_append, HNX.out]
            have := HCL.out
            omega
          have HN4 : Hid ((T ++ [0]).length = n3 + 1) := Lib.hid (by rw [List.length_append, HN3.out]; rfl)
          clear HT HCB HCL
          go_wp2_with fail
          refine wp_region_held_drew (S := (fun wQq => Blk wQq g 57 #[.string key, .bool false, .slice xA xn xk, .int .u64 (gen : Int), .int .i64 (S : Int)])) (by kernel_rfl) (HX3d.out) (fun _ => ?_)
          refine wpAnyH_take (i := 0) (v := ?_) rfl (by kernel_rfl) (by kernel_rfl) (by kernel_rfl) (fun _ _ _ h => h) (Or.inl ⟨by rfl, ?_⟩) (HX3d.out) ?_
          rotate_left
          · intro wS hSw
            go_simp
            try with_reducible rfl
          try simp only [List.getElem_toArray, List.getElem_cons_zero, List.getElem_cons_succ, Act.put, List.setIfInBounds_toArray, List.set_cons_zero, List.set_cons_succ]
          refine wpAnyH_take (i := 3) (v := ?_) rfl (by kernel_rfl) (by kernel_rfl) (by kernel_rfl) (fun _ _ _ h => h) (Or.inl ⟨by rfl, ?_⟩) (HX3d.out) ?_
          rotate_left
          · intro wS hSw
            go_simp
            try with_reducible rfl
          try simp only [List.getElem_toArray, List.getElem_cons_zero, List.getElem_cons_succ, Act.put, List.setIfInBounds_toArray, List.set_cons_zero, List.set_cons_succ]
          refine wpAnyH_take (i := 4) (v := ?_) rfl (by kernel_rfl) (by kernel_rfl) (by kernel_rfl) (fun _ _ _ h => h) (Or.inl ⟨by rfl, ?_⟩) (HX3d.out) ?_
          rotate_left
          · intro wS hSw
            have hcv := hSw.cell 2
            have hcv1 := hSw.cell 3
            have hcv2 := hSw.cell 4
            go_simp
            try with_reducible rfl
          try simp only [List.getElem_toArray, List.getElem_cons_zero, List.getElem_cons_succ, Act.put, List.setIfInBounds_toArray, List.set_cons_zero, List.set_cons_succ]
          refine wpAnyH_ready (rs := [1]) (by kernel_rfl) (by simp) ?_
          refine AllReadyH.cons rfl (fun K hK => ?_) AllReadyH.nil
          go_simp
          have HXA := Lib.hid (HX3d.out.alloc (.cells #[.int .u8 0] 5))
          refine hK.out _ _ HXA.out (fun _ => ?_)
          clear hK K
          try simp only [List.getElem_toArray, List.getElem_cons_zero, List.getElem_cons_succ, Act.put, List.setIfInBounds_toArray, List.set_cons_zero, List.set_cons_succ]
          refine wpAnyH_ready (rs := [2]) (by kernel_rfl) (by simp) ?_
          refine AllReadyH.cons rfl (fun K hK => ?_) AllReadyH.nil
          refine wp_appB (.tmp 34) (.tmp 35) rfl w.heap.size A3 n3 c3 (T.map bv) rfl (HO3d.out.alloc _) _ (some ⟨w3.heap.size, 0, none⟩) 1 1 [bv 0] rfl rfl (Rd.new w3.drew _ _ _ rfl) one_byte (by omega) (by simp; exact Nat.le_succ_of_le hsz3) ?_
          intro A6 c6 w6 ho6 hg6 hb6
          have HX6 := Lib.hid (HXA.out.same (Same.grown (ts := [5]) (HO3d.out.alloc _) hg6 (by decide)) (by decide))
          have HB6 := Lib.hid ((HB3d.out.alloc HB3d.out.size (.cells #[.int .u8 0] 5)).trans hb6)
          have HO6 : Hid (w6.ownsRow w.heap.size 5 1 (.slice A6 (n3 + 1) c6) (n3 + 1) ((T ++ [0]).map bv)) := Lib.hid (by rw [List.map_append]; exact ho6)
          clear ho6 hg6 hb6
          refine hK.out _ _ HX6.out (fun _ => ?_)
          clear hK K
          try simp only [List.getElem_toArray, List.getElem_cons_zero, List.getElem_cons_succ, Act.put, List.setIfInBounds_toArray, List.set_cons_zero, List.set_cons_succ]
          refine wpAnyH_ready (rs := [5]) (by kernel_rfl) (by simp) ?_
          refine AllReadyH.cons rfl (fun K hK => ?_) AllReadyH.nil
          go_simp
          refine (blobPut A6 (n3 + 1) c6 (T ++ [0]) pl gen S xA xn xk w6 (Rd.of_own HO6.out) HN4.out (by omega) ((HR1.out.below HB6.out).more HB6.out.size) HL1.out (by omega) h4 hS4 HK5.out).mono ?_
          rintro e w7 ⟨A7, n7, c7, rfl, hn7, ho7, hb7⟩
          have HX7 := Lib.hid (HX6.out.below hb7 HX6.out.lt)
          have HB7 := Lib.hid (HB6.out.via hb7)
          have HO7 := Lib.hid (own_lower1 ho7 HB6.out.size)
          have HN7 := Lib.hid hn7
          have hn7c : n7 ≤ nx + 4200 := by rw [← hn7]; exact hn7b
          clear hn7 ho7 hb7
          refine hK.out _ _ HX7.out (fun _ => ?_)
          clear hK K
          try simp only [List.getElem_toArray, List.getElem_cons_zero, List.getElem_cons_succ, Act.put, List.setIfInBounds_toArray, List.set_cons_zero, List.set_cons_succ]
          refine wpAnyH_take (i := 6) (v := ?_) rfl (by kernel_rfl) (by kernel_rfl) (by kernel_rfl) (fun _ _ _ h => h) (Or.inl ⟨by rfl, ?_⟩) HX7.out ?_
          rotate_left
          · intro wS hSw
            go_simp
            try with_reducible rfl
          try simp only [List.getElem_toArray, List.getElem_cons_zero, List.getElem_cons_succ, Act.put, List.setIfInBounds_toArray, List.set_cons_zero, List.set_cons_succ]
          refine wpAnyH_done (by kernel_rfl) ?_ _
          go_wp2
          go_roundw
          case rel => exact ⟨p + 1, A7, n7, c7, _, by go_num, hlt, rfl, by omega, HN7, HFX2, HO7, HB7⟩
          case measure => simp [intOf]; omega
        · have HCB : Hid (bs ++ Frm.chB ⟨key, true, ⟨pl, gen, (S : Int)⟩⟩ = T ++ [1]) := Lib.hid (by
            rw [← HT.out]
            unfold Frm.chB
            simp)
          rw [HCB.out] at HFX2
          have HN4 : Hid ((T ++ [1]).length = n3 + 1) := Lib.hid (by rw [List.length_append, HN3.out]; rfl)
          clear HT HCB HCL
          go_wp2_with (at_builtin; go_loud (refine appB _ rfl (.tmp 31) (.tmp 32) rfl w.heap.size A3 n3 c3 (T.map bv) rfl (HO3.out.alloc _) _ (some ⟨w3.heap.size, 0, none⟩) 1 1 [bv 1] rfl rfl (Rd.new w3 _ _ _ rfl) one_byte (by omega) (by simp; omega) ?_; intro A4 c4 w4 ho4 hg4 hb4; have HB4 := Lib.hid ((HB3.out.alloc hsz3 (.cells #[.int .u8 1] 5)).trans hb4); have HO4 : Hid (w4.ownsRow w.heap.size 5 1 (.slice A4 (n3 + 1) c4) (n3 + 1) ((T ++ [1]).map bv)) := Lib.hid (by rw [List.map_append]; exact ho4); clear ho4 hg4 hb4))
          go_roundw
          case rel => exact ⟨p + 1, A4, n3 + 1, c4, _, by go_num, hlt, rfl, by omega, HN4, HFX2, HO4, HB4⟩
          case measure => simp [intOf]; omega
      · obtain rfl : p = n := by omega
        have hF := HFX.out
        rw [List.drop_of_length_le (by rw [List.length_map, HL.out]; exact Nat.le_refl _), List.flatMap_nil, List.append_nil] at hF
        subst hF
        clear HFX
        have hnx2 : nx ≤ 100000 := by omega
        go_wp2
        first | go_ret2 | go_ret
        exact ⟨Ax, nx, cx, rfl, HNX.out, hnx2, HOX.out, HBX.out⟩
end Cib
