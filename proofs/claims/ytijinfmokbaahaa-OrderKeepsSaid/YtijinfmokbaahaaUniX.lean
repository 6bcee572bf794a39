/- Order: the document's ends. -/
import Derived.Test.YtijinfmokbaahaaUniV
import Derived.Deep.CutBlock
set_option linter.unusedVariables false
set_option linter.unusedSimpArgs false
set_option maxRecDepth 20000
namespace Cib
open Go Go.RowKit Go.Proofs
theorem infoTx : (Try.prog.info? 9).map (fun i => (i.zero, i.size, i.bytes)) = some (some (.string ⟨#[]⟩), 1, 16) := by kernel_rfl
theorem sizeTx : (Try.prog.info? 9).map (·.size) = some 1 := by kernel_rfl
/-- A row of texts of the call's own. -/
def OwnT (w : World) (B : Nat) (A : Option Addr) (n c : Nat) (E : List ByteArray) : Prop := w.ownsRow B 9 1 (.slice A n c) n (E.map Value.string)
section
variable {w w' : World} {B n c g : Nat} {A : Option Addr} {E M : List ByteArray}
theorem OwnT.len (h : OwnT w B A n c E) : E.length = n := by
  have h1 := h.1
  simpa using h1
theorem OwnT.rd (h : OwnT w B A n c E) : Rd w w.heap.size A (E.map Value.string) := Rd.of_ownS h
theorem OwnT.via (h : OwnT w B A n c E) (hb : Below w.heap.size w w') : OwnT w' B A n c E := own_belowS h hb
theorem OwnT.lower {B' : Nat} (h : OwnT w B A n c E) (hb : B' ≤ B) : OwnT w B' A n c E := own_lowerS h hb
theorem OwnT.at (h : OwnT w B A n c E) {j : Nat} (hj : j < E.length) : ∃ g, A = some ⟨g, 0, none⟩ ∧ B ≤ g ∧ g < w.heap.size ∧ w.cell? ⟨g, j, none⟩ = some (.string E[j]) := by
  have hl := h.len
  obtain ⟨g, cap, hv, hb, hlt⟩ := h.form (by omega)
  injection hv with hA _ hc
  subst hA
  subst hc
  refine ⟨g, rfl, hb, hlt, ?_⟩
  have := World.ownsRow.cellAt h j (by omega)
  rw [this]
  simp [hj]
theorem tx_one : ∀ u ∈ M.map Value.string, u.oneCell' = true := by
  intro u hu
  obtain ⟨b, _, rfl⟩ := List.mem_map.1 hu
  rfl
end
theorem Rd.blk {w : World} {q : Nat} {T : TypeId} {cs : List Value} (h : Blk w q T cs.toArray) : Rd w (q + 1) (some ⟨q, 0, none⟩) cs := fun _ => by
  refine ⟨_, rfl, Nat.lt_succ_self _, fun j hj => ?_⟩
  have e : (⟨q, 0, none⟩ : Addr).add j = ⟨q, j, none⟩ := by unfold Addr.add; split <;> simp_all
  rw [e, h.cell j]
  simp [hj]
theorem wp_appT {w : World} {o : Oper} {a : Act} {K : Act → World → Prop} {Q : Exit → Act → World → Prop} (s x : Operand)
    (ho : o.op = .call { callee := .builtin .append, args := #[s, x], argTypes := #[23, 23] })
    (base : Nat) (A0 : Option Addr) (n0 c0 : Nat) (E : List ByteArray) (hs : a.eval s = .slice A0 n0 c0) (hown : OwnT w base A0 n0 c0 E)
    (B : Nat) (A : Option Addr) (m c : Nat) (M : List ByteArray) (hx : a.eval x = .slice A m c) (hm : M.length = m) (hr : Rd w B A (M.map Value.string)) (h63 : n0 + m ≤ 1000) (hbase : base ≤ w.heap.size)
    (h : ∀ A' c' w', OwnT w' base A' (n0 + m) c' (E ++ M) → w.grownBy w' (Value.slice A0 n0 c0).ownBlock → Below base w w' → K (a.put o.dst (.slice A' (n0 + m) c')) w') :
    o.wp Try.prog a w K Q := by
  obtain ⟨i0, hi, hz0, hz1, hz2⟩ := info_parts infoTx
  exact wp_appN s x _ ho base 1 9 i0 _ 16 Try.underlying23 hi hz0 hz1 hz2 rfl (by decide) A0 n0 c0 (E.map Value.string) hs hown B A m c (M.map Value.string) hx (by rw [List.length_map, hm, Nat.mul_one]) hr tx_one (by unfold maxLen; omega) (by omega) hbase (fun A' c' w' h1 h2 h3 => h A' c' w' (by unfold OwnT; rw [List.map_append]; exact h1) h2 h3)
set_option maxHeartbeats 4000000 in
theorem endsAl (w : World) (B n c : Nat) (A : Option Addr) (L : List Sn) (hL : L.length = n) (h : Rd w B A (cellsL L)) (hB : B ≤ w.heap.size) (hn : n ≤ 100) :
    Calls Try.prog 35 #[.slice A n c] w fun e w' =>
      ∃ (A' : Option Addr) (n' c' : Nat), e = .returned (.slice A' n' c') ∧ ∃ E : List ByteArray, OwnT w' w.heap.size A' n' c' E ∧ Ord.Rise (Ord.tips L) E ∧ Below w.heap.size w w' := by
  have HR := Lib.hid h
  have HN := Lib.hid hL
  have HBB := Lib.hid hB
  clear h hL hB
  go_enter Try.func35, Try.ntmps35
  go_wp2
  go_loopw [3, 4] (fun x3 x4 wx => ∃ (i k c2 : Nat) (A2 : Option Addr) (E : List ByteArray), x4 = .int .i64 i ∧ x3 = .slice A2 k c2 ∧ i ≤ n ∧ Hid (Ord.Rise (Ord.tips (L.take i)) E) ∧ Hid (OwnT wx w.heap.size A2 k c2 E) ∧ Hid (Below w.heap.size w wx)) (fun _ x4 _ => n - (Go.RowKit.intOf x4).toNat)
  case atStart =>
    refine ⟨0, 1, 1, some ⟨w.heap.size, 0, none⟩, [Ord.z], rfl, rfl, Nat.zero_le _, Lib.hid Ord.Rise.start, Lib.hid ?_, Lib.hid ((Below.refl _ _).alloc (Nat.le_refl _) _)⟩
    exact World.ownsRow_lit w #[.string ⟨#[]⟩] 1 (Nat.le_refl _) (by decide) rfl
  case round =>
    obtain ⟨i, k, c2, A2, E, rfl, rfl, hi, HE, HO, HB⟩ := hrel
    by_cases hlt : i < n
    · have hiL : i < L.length := by rw [HN.out]; exact hlt
      obtain ⟨b, off, rfl, hc1, hc2⟩ := spanAt (HR.out.below (HB.out.mono HBB.out)) hiL
      obtain ⟨x, hx⟩ : ∃ x, L[i] = x := ⟨_, rfl⟩
      obtain ⟨f, t⟩ := x
      have eT : Ord.tips (L.take (i + 1)) = Ord.tips (L.take i) ++ [f, t] := by
        rw [List.take_succ_eq_append_getElem hiL, hx, Ord.tips_snoc, List.append_assoc]
        rfl
      have HET := Lib.hid eT
      rw [hx] at hc1 hc2
      dsimp only at hc1 hc2
      have HTL : Hid ((Ord.tips (L.take i)).length ≤ 200) := Lib.hid (by rw [Ord.tips_len, List.length_take]; omega)
      generalize Ord.tips (L.take i) = T at HE HET HTL
      clear hx eT hiL
      go_wp2
      go_region
      all_goals (try go_wp2)
      obtain ⟨w1, hw1⟩ : ∃ w1, (wr.alloc (.cells #[.string f, .string t] 9)).drew = w1 := ⟨_, rfl⟩
      have hb1 : Below wr.heap.size wr w1 := by rw [← hw1]; exact below_drewN ((Below.refl wr.heap.size wr).alloc (Nat.le_refl _) _) 1
      have hk1 : Blk w1 wr.heap.size 9 #[.string f, .string t] := by rw [← hw1]; exact Blk.new _ _ _
      rw [hw1]
      have HO1 := Lib.hid (HO.out.via hb1)
      have HB1 := Lib.hid (HB.out.via hb1)
      have HK1 := Lib.hid hk1
      have HE0 : Hid (Ord.Rise (T ++ [f, t].take 0) E) := Lib.hid (by simpa using HE.out)
      clear hw1 hb1 hk1 HO HB HE
      generalize wr.heap.size = q at HK1 ⊢
      go_loopw [3, 6] (fun x3 x6 wx => ∃ (kk k c2 : Nat) (A2 : Option Addr) (E : List ByteArray), x6 = .int .i64 kk ∧ x3 = .slice A2 k c2 ∧ kk ≤ 2 ∧ Hid (Ord.Rise (T ++ [f, t].take kk) E) ∧ Hid (OwnT wx w.heap.size A2 k c2 E) ∧ Hid (Below w.heap.size w wx) ∧ Hid (Blk wx q 9 #[.string f, .string t])) (fun _ x6 _ => 2 - (Go.RowKit.intOf x6).toNat)
      case atStart => exact ⟨0, k, c2, A2, E, rfl, rfl, by omega, HE0, HO1, HB1, HK1⟩
      case round =>
        clear HE0 HO1 HB1 HK1
        obtain ⟨kk, k, c2, A2, E, rfl, rfl, hkk, HE, HO, HB, HK⟩ := hrel
        by_cases hlk : kk < 2
        · have hx : ∃ x, (#[Value.string f, .string t] : Array Value)[kk]? = some (.string x) ∧ [f, t].take (kk + 1) = [f, t].take kk ++ [x] := by
            have : kk = 0 ∨ kk = 1 := by omega
            rcases this with rfl | rfl
            · exact ⟨f, rfl, rfl⟩
            · exact ⟨t, rfl, rfl⟩
          obtain ⟨x, hx, hxt⟩ := hx
          have HX : Hid (∀ W : World, Blk W q 9 #[.string f, .string t] → W.cell? ⟨q, kk, none⟩ = some (.string x)) := Lib.hid (fun W h => (h.cell kk).trans hx)
          have HXT := Lib.hid hxt
          have hcx := HX.out wr HK.out
          clear hx hxt
          have hk100 : k ≤ 300 := by
            have h1 := HE.out.len
            have h2 := HO.out.len
            have h3 := HTL.out
            rw [List.length_append, List.length_take] at h1
            omega
          obtain ⟨e0, he0⟩ : ∃ e0, E[0]? = some e0 := ⟨_, HE.out.first⟩
          have hE0 : 0 < E.length := (List.getElem?_eq_some_iff.1 he0).1
          obtain ⟨g2, rfl, hg2, hg2w, hq0⟩ := HO.out.at hE0
          have hEk : E.length = k := HO.out.len
          have HEK := Lib.hid hEk
          have HAT : Hid (∀ (W : World) (j : Nat) (hj : j < E.length), Below wr.heap.size wr W → W.cell? ⟨g2, j, none⟩ = some (.string E[j])) := Lib.hid (fun W j hj hb => by
            obtain ⟨g', e, _, _, h1⟩ := (HO.out.via hb).at hj
            injection e with e
            injection e with e
            subst e
            exact h1)
          have HKW : Hid (∀ W : World, Below wr.heap.size wr W → W.cell? ⟨q, kk, none⟩ = some (.string x)) := Lib.hid (fun W hb => HX.out W (HK.out.below hb HK.out.lt))
          clear hq0 he0 hE0 hEk hcx
          have hk2z : (kk : Int) < 2 := by omega
          go_upto_block 4 with fail
          go_cut [7] from 30 to 46 (fun x7 wx => ∃ at_ : Nat, x7 = .int .i64 at_ ∧ at_ ≤ k ∧ Hid (∀ t ∈ E.take at_, Ord.lt t x = true) ∧ Hid (∀ a, E[at_]? = some a → Ord.lt a x = false) ∧ Hid (Below wr.heap.size wr wx))
          case first =>
            clear HX HXT HET HE HO HB HK HR
            go_wp2_with fail
            go_loopw [7] (fun x7 wx => ∃ at_ : Nat, x7 = .int .i64 at_ ∧ at_ ≤ k ∧ Hid (∀ t ∈ E.take at_, Ord.lt t x = true) ∧ Hid (Below wr.heap.size wr wx)) (fun x7 _ => k - (Go.RowKit.intOf x7).toNat)
            case atStart => exact ⟨0, rfl, Nat.zero_le _, Lib.hid (by simp), Lib.hid (Below.refl _ _)⟩
            case round =>
              obtain ⟨j, rfl, hj, HP, HBw⟩ := hrel
              have hck := HKW.out wr HBw.out
              by_cases hjk : j < k
              · have hjE : j < E.length := by rw [HEK.out]; exact hjk
                have hce := HAT.out wr j hjE HBw.out
                have hd : decide (j < k) = true := decide_eq_true hjk
                have HYES : Hid (Op.bytesLess E[j].toList x.toList = true → ∀ t ∈ E.take (j + 1), Ord.lt t x = true) := Lib.hid (fun h t ht => by
                  rw [List.take_succ_eq_append_getElem hjE] at ht
                  rcases List.mem_append.1 ht with ht | ht
                  · exact HP.out t ht
                  · rw [List.mem_singleton.1 ht]; exact h)
                have HNO : Hid (Op.bytesLess E[j].toList x.toList = false → ∀ a, E[j]? = some a → Ord.lt a x = false) := Lib.hid (fun h a ha => by
                  rw [List.getElem?_eq_getElem hjE] at ha
                  injection ha with ha
                  rw [← ha]
                  exact h)
                generalize E[j] = y at hce HYES HNO
                cases hyx : Op.bytesLess y.toList x.toList
                · rw [hyx] at HYES HNO
                  go_wp2
                  go_region
                  all_goals (try go_wp2)
                  all_goals (go_meet; exact ⟨j, rfl, hj, HP, Lib.hid (HNO.out (by trivial)), Lib.hid (below_drewN HBw.out 1)⟩)
                · rw [hyx] at HYES HNO
                  go_wp2
                  go_region
                  all_goals (try go_wp2)
                  go_roundw
                  case rel => exact ⟨j + 1, by go_num, by omega, Lib.hid (HYES.out (by trivial)), Lib.hid (below_drewN HBw.out 1)⟩
                  case measure => first | (simp [Go.RowKit.intOf]; done) | (simp [Go.RowKit.intOf]; omega)
              · have hd : decide (j < k) = false := decide_eq_false hjk
                have HNO : Hid (∀ a, E[j]? = some a → Ord.lt a x = false) := Lib.hid (fun a ha => by rw [List.getElem?_eq_none (by rw [HEK.out]; omega)] at ha; cases ha)
                go_wp2
                go_region
                all_goals (try go_wp2)
                all_goals (go_meet; exact ⟨j, rfl, hj, HP, HNO, Lib.hid (below_drewN HBw.out 1)⟩)
          case rest =>
            obtain ⟨j, rfl, hj, HP, HNL, HBw⟩ := hcut
            have hck := HKW.out wc HBw.out
            go_upto_region 12 with fail
            go_cut [61] from 47 to 76 (fun x61 wx => ∃ r : Bool, x61 = .bool r ∧ Hid (r = true → ∀ a, E[j]? = some a → Ord.lt x a = true) ∧ Hid (r = false → ∃ h : j < E.length, E[j] = x) ∧ Hid (Below wr.heap.size wr wx))
            case first =>
              by_cases hjk : j < k
              · have hjE : j < E.length := by rw [HEK.out]; exact hjk
                have hce := HAT.out wc j hjE HBw.out
                have hd : (j == k) = false := beq_eq_false_iff_ne.2 (by omega)
                have hd2 : ((j : Int) == (k : Int)) = false := beq_eq_false_iff_ne.2 (by omega)
                have hd3 : ¬ j = k := by omega
                have HYES : Hid (E[j].toList ≠ x.toList → ∀ a, E[j]? = some a → Ord.lt x a = true) := Lib.hid (fun h a ha => by
                  have hnl := HNL.out a ha
                  rw [List.getElem?_eq_getElem hjE] at ha
                  injection ha with ha
                  subst ha
                  rcases Ord.le_iff.1 hnl with h1 | h1
                  · exact h1
                  · exact absurd (by rw [h1]) h)
                have HNO : Hid (E[j].toList = x.toList → ∃ h : j < E.length, E[j] = x) := Lib.hid (fun h => ⟨hjE, Ord.toList_eq h⟩)
                generalize E[j] = y at hce HYES HNO
                have hne : ∃ r : Bool, (y.toList == x.toList) = !r := ⟨!(y.toList == x.toList), by simp⟩
                obtain ⟨r, hr⟩ := hne
                have HY2 : Hid (r = true → ∀ a, E[j]? = some a → Ord.lt x a = true) := Lib.hid (fun h => HYES.out (by rw [h] at hr; simpa using hr))
                have HN2 : Hid (r = false → ∃ h : j < E.length, E[j] = x) := Lib.hid (fun h => HNO.out (by rw [h] at hr; simpa using hr))
                clear HYES HNO
                go_wp2
                go_region
                all_goals (try go_wp2)
                all_goals (go_meet; exact ⟨r, by first | rfl | (simp [hr]; done) | simp_all, HY2, HN2, Lib.hid (below_drewN HBw.out 1)⟩)
              · have hjk2 : j = k := by omega
                subst hjk2
                have HY2 : Hid (∀ a, E[j]? = some a → Ord.lt x a = true) := Lib.hid (fun a ha => by rw [List.getElem?_eq_none (by rw [HEK.out]; omega)] at ha; cases ha)
                go_wp2
                go_region
                all_goals (try go_wp2)
                all_goals (go_meet; exact ⟨true, rfl, Lib.hid (fun _ => HY2.out), Lib.hid (fun h => by cases h), Lib.hid (below_drewN HBw.out 1)⟩)
            case rest =>
              clear HBw hck
              obtain ⟨r, rfl, HY, HN2, HBw⟩ := hcut
              have HLW : Hid (w.heap.size ≤ wr.heap.size) := Lib.hid HB.out.size
              have HLOW : Hid (∀ W, Below wr.heap.size wr W → Below w.heap.size w W ∧ Blk W q 9 #[.string f, .string t]) := Lib.hid (fun W hb => ⟨HB.out.via hb, HK.out.below hb HK.out.lt⟩)
              cases r
              · have HE3 : Hid (Ord.Rise (T ++ [f, t].take (kk + 1)) E) := Lib.hid (by
                  obtain ⟨h1, h2⟩ := HN2.out (by trivial)
                  rw [HXT.out, ← List.append_assoc]
                  exact HE.out.same h1 h2)
                have HOW := Lib.hid (HO.out.via HBw.out)
                clear HO HB HK HE HY HN2
                go_wp2
                go_roundw
                case rel => exact ⟨kk + 1, k, c2, _, E, by go_num, rfl, by omega, HE3, HOW, Lib.hid (HLOW.out _ HBw.out).1, Lib.hid (HLOW.out _ HBw.out).2⟩
                case measure => first | (simp [Go.RowKit.intOf]; done) | (simp [Go.RowKit.intOf]; omega)
              · have HE3 : Hid (Ord.Rise (T ++ [f, t].take (kk + 1)) (E.take j ++ [x] ++ E.drop j)) := Lib.hid (by
                  rw [HXT.out, ← List.append_assoc]
                  exact HE.out.new (by rw [HEK.out]; exact hj) HP.out (HY.out (by trivial)))
                have hcap := own_capS HO.out
                have hjc : j ≤ c2 := by omega
                have HLJ : Hid ((E.take j).length = j) := Lib.hid (by rw [List.length_take, HEK.out]; omega)
                have HLD : Hid ((E.drop j).length = k - j) := Lib.hid (by rw [List.length_drop, HEK.out])
                have HR1 : Hid (∀ W, Below wr.heap.size wr W → Rd W wr.heap.size (some ⟨g2, 0, none⟩) ((E.take j).map Value.string)) := Lib.hid (fun W hb => by
                  have h1 := (HO.out.rd.below hb).take j
                  rwa [← List.map_take] at h1)
                have HR2 : Hid (∀ W, Below wr.heap.size wr W → Rd W wr.heap.size (Cib.cut (some ⟨g2, 0, none⟩) c2 j) ((E.drop j).map Value.string)) := Lib.hid (fun W hb => by
                  have h1 := (HO.out.rd.below hb).cut (c := c2) (k := j) (by rw [List.length_map, HEK.out]; omega) (by rw [List.length_map, HEK.out]; omega)
                  rwa [← List.map_drop] at h1)
                have hs1 := fun V : World => run_cut_to (P := Try.prog) 23 9 Try.underlying23 sizeTx (some ⟨g2, 0, none⟩) k c2 j .i64 hjc V
                have hs2 := fun V : World => run_cut_from (P := Try.prog) 23 9 Try.underlying23 sizeTx (some ⟨g2, 0, none⟩) k c2 j .i64 hj V
                generalize Cib.cut (some ⟨g2, 0, none⟩) c2 j = A9 at HR2 hs2
                have hwn : k ≤ 300 := hk100
                clear HO HB HK HE HY HN2 HP HNL hcap HAT
                go_wp2
                refine wp_region_held_drew (S := (fun wQq => Below wr.heap.size wr wQq)) (by kernel_rfl) ((below_drewN HBw.out 1)) (fun _ => ?_)
                refine wpAnyH_take (i := 1) (v := ?_) rfl (by kernel_rfl) (by kernel_rfl) (by kernel_rfl) (fun _ _ _ h => h) (Or.inl ⟨by rfl, ?_⟩) ((below_drewN HBw.out 1)) ?_
                rotate_left
                · intro wS hSw
                  go_simp
                  try with_reducible rfl
                try simp only [List.getElem_toArray, List.getElem_cons_zero, List.getElem_cons_succ, Act.put, List.setIfInBounds_toArray, List.set_cons_zero, List.set_cons_succ]
                refine wpAnyH_take (i := 2) (v := ?_) rfl (by kernel_rfl) (by kernel_rfl) (by kernel_rfl) (fun _ _ _ h => h) (Or.inl ⟨by rfl, ?_⟩) ((below_drewN HBw.out 1)) ?_
                rotate_left
                · intro wS hSw
                  go_simp
                  try with_reducible rfl
                try simp only [List.getElem_toArray, List.getElem_cons_zero, List.getElem_cons_succ, Act.put, List.setIfInBounds_toArray, List.set_cons_zero, List.set_cons_succ]
                refine wpAnyH_take (i := 3) (v := ?_) rfl (by kernel_rfl) (by kernel_rfl) (by kernel_rfl) (fun _ _ _ h => h) (Or.inl ⟨by rfl, ?_⟩) ((below_drewN HBw.out 1)) ?_
                rotate_left
                · intro wS hSw
                  go_simp
                  try with_reducible rfl
                try simp only [List.getElem_toArray, List.getElem_cons_zero, List.getElem_cons_succ, Act.put, List.setIfInBounds_toArray, List.set_cons_zero, List.set_cons_succ]
                refine wpAnyH_take (i := 5) (v := ?_) rfl (by kernel_rfl) (by kernel_rfl) (by kernel_rfl) (fun _ _ _ h => h) (Or.inl ⟨by rfl, ?_⟩) ((below_drewN HBw.out 1)) ?_
                rotate_left
                · intro wS hSw
                  go_simp
                  try with_reducible rfl
                try simp only [List.getElem_toArray, List.getElem_cons_zero, List.getElem_cons_succ, Act.put, List.setIfInBounds_toArray, List.set_cons_zero, List.set_cons_succ]
                refine wpAnyH_take (i := 6) (v := ?_) rfl (by kernel_rfl) (by kernel_rfl) (by kernel_rfl) (fun _ _ _ h => h) (Or.inl ⟨by rfl, ?_⟩) ((below_drewN HBw.out 1)) ?_
                rotate_left
                · intro wS hSw
                  go_simp
                  try with_reducible rfl
                try simp only [List.getElem_toArray, List.getElem_cons_zero, List.getElem_cons_succ, Act.put, List.setIfInBounds_toArray, List.set_cons_zero, List.set_cons_succ]
                refine wpAnyH_take (i := 7) (v := ?_) rfl (by kernel_rfl) (by kernel_rfl) (by kernel_rfl) (fun _ _ _ h => h) (Or.inl ⟨by rfl, ?_⟩) ((below_drewN HBw.out 1)) ?_
                rotate_left
                · intro wS hSw
                  go_simp
                  try with_reducible rfl
                try simp only [List.getElem_toArray, List.getElem_cons_zero, List.getElem_cons_succ, Act.put, List.setIfInBounds_toArray, List.set_cons_zero, List.set_cons_succ]
                refine wpAnyH_take (i := 11) (v := ?_) rfl (by kernel_rfl) (by kernel_rfl) (by kernel_rfl) (fun _ _ _ h => h) (Or.inl ⟨by rfl, ?_⟩) ((below_drewN HBw.out 1)) ?_
                rotate_left
                · intro wS hSw
                  go_simp
                  try with_reducible rfl
                try simp only [List.getElem_toArray, List.getElem_cons_zero, List.getElem_cons_succ, Act.put, List.setIfInBounds_toArray, List.set_cons_zero, List.set_cons_succ]
                refine wpAnyH_take (i := 12) (v := ?_) rfl (by kernel_rfl) (by kernel_rfl) (by kernel_rfl) (fun _ _ _ h => h) (Or.inl ⟨by rfl, ?_⟩) ((below_drewN HBw.out 1)) ?_
                rotate_left
                · intro wS hSw
                  go_simp
                  try with_reducible rfl
                try simp only [List.getElem_toArray, List.getElem_cons_zero, List.getElem_cons_succ, Act.put, List.setIfInBounds_toArray, List.set_cons_zero, List.set_cons_succ]
                refine wpAnyH_take (i := 13) (v := ?_) rfl (by kernel_rfl) (by kernel_rfl) (by kernel_rfl) (fun _ _ _ h => h) (Or.inl ⟨by rfl, ?_⟩) ((below_drewN HBw.out 1)) ?_
                rotate_left
                · intro wS hSw
                  go_simp
                  try with_reducible rfl
                try simp only [List.getElem_toArray, List.getElem_cons_zero, List.getElem_cons_succ, Act.put, List.setIfInBounds_toArray, List.set_cons_zero, List.set_cons_succ]
                refine wpAnyH_take (i := 8) (v := ?_) rfl (by kernel_rfl) (by kernel_rfl) (by kernel_rfl) (fun _ _ _ h => h) (Or.inl ⟨by rfl, ?_⟩) ((below_drewN HBw.out 1)) ?_
                rotate_left
                · intro wS hSw
                  have hcv := HKW.out _ hSw
                  go_simp
                  try with_reducible rfl
                try simp only [List.getElem_toArray, List.getElem_cons_zero, List.getElem_cons_succ, Act.put, List.setIfInBounds_toArray, List.set_cons_zero, List.set_cons_succ]
                refine wpAnyH_ready (rs := [0, 9]) (by kernel_rfl) (by simp) ?_
                refine AllReadyH.cons rfl (fun K hK => ?_) (AllReadyH.cons rfl (fun K hK => ?_) AllReadyH.nil)
                · go_simp
                  have HB0 : Hid (Below wr.heap.size wr (wc.drew.alloc (.cells #[] 9))) := Lib.hid ((below_drewN HBw.out 1).alloc HBw.out.size _)
                  have HO0 : Hid (OwnT (wc.drew.alloc (.cells #[] 9)) wr.heap.size (some ⟨wc.heap.size, 0, none⟩) 0 0 []) := Lib.hid (World.ownsRow_lit wc.drew #[] 0 HBw.out.size (by decide) rfl)
                  refine hK.out _ _ HB0.out (fun _ => ?_)
                  clear hK K
                  try simp only [List.getElem_toArray, List.getElem_cons_zero, List.getElem_cons_succ, Act.put, List.setIfInBounds_toArray, List.set_cons_zero, List.set_cons_succ]
                  refine wpAnyH_ready (rs := [4, 9]) (by kernel_rfl) (by simp) ?_
                  refine AllReadyH.cons rfl (fun K hK => ?_) (AllReadyH.cons rfl (fun K hK => ?_) AllReadyH.nil)
                  · refine wp_appT (.tmp 62) (.tmp 65) rfl wr.heap.size (some ⟨wc.heap.size, 0, none⟩) 0 0 [] rfl HO0.out wr.heap.size (some ⟨g2, 0, none⟩) j c2 (E.take j) rfl HLJ.out (HR1.out _ HB0.out) (by omega) HB0.out.size ?_
                    intro A4 c4 w4 ho4 hg4 hb4
                    simp only [Nat.zero_add, List.nil_append] at ho4 ⊢
                    have HB4 := Lib.hid (HB0.out.trans hb4)
                    have HO4 := Lib.hid ho4
                    clear ho4 hg4 hb4
                    refine hK.out _ _ HB4.out (fun _ => ?_)
                    clear hK K
                    try simp only [List.getElem_toArray, List.getElem_cons_zero, List.getElem_cons_succ, Act.put, List.setIfInBounds_toArray, List.set_cons_zero, List.set_cons_succ]
                    refine wpAnyH_ready (rs := [9]) (by kernel_rfl) (by simp) ?_
                    refine AllReadyH.cons rfl (fun K hK => ?_) AllReadyH.nil
                    go_simp
                    have HB9 : Hid (Below wr.heap.size wr (w4.alloc (.cells #[.string x] 9))) := Lib.hid (HB4.out.alloc HB4.out.size _)
                    have HO9 : Hid (OwnT (w4.alloc (.cells #[.string x] 9)) wr.heap.size A4 j c4 (E.take j)) := Lib.hid (HO4.out.via ((Below.refl _ _).alloc (Nat.le_refl _) _))
                    have HX9 : Hid (Blk (w4.alloc (.cells #[.string x] 9)) w4.heap.size 9 [Value.string x].toArray) := Lib.hid (Blk.new _ _ _)
                    generalize w4.heap.size = q9 at HX9 ⊢
                    refine hK.out _ _ HB9.out (fun _ => ?_)
                    clear hK K
                    try simp only [List.getElem_toArray, List.getElem_cons_zero, List.getElem_cons_succ, Act.put, List.setIfInBounds_toArray, List.set_cons_zero, List.set_cons_succ]
                    refine wpAnyH_ready (rs := [10]) (by kernel_rfl) (by simp) ?_
                    refine AllReadyH.cons rfl (fun K hK => ?_) AllReadyH.nil
                    refine wp_appT (.tmp 66) (.tmp 71) rfl wr.heap.size A4 j c4 (E.take j) rfl HO9.out (q9 + 1) (some ⟨q9, 0, none⟩) 1 1 [x] rfl rfl (Rd.blk HX9.out) (by omega) HB9.out.size ?_
                    intro A10 c10 w10 ho10 hg10 hb10
                    have HB10 := Lib.hid (HB9.out.trans hb10)
                    have HO10 := Lib.hid ho10
                    clear ho10 hg10 hb10
                    refine hK.out _ _ HB10.out (fun _ => ?_)
                    clear hK K
                    try simp only [List.getElem_toArray, List.getElem_cons_zero, List.getElem_cons_succ, Act.put, List.setIfInBounds_toArray, List.set_cons_zero, List.set_cons_succ]
                    refine wpAnyH_ready (rs := [14]) (by kernel_rfl) (by simp) ?_
                    refine AllReadyH.cons rfl (fun K hK => ?_) AllReadyH.nil
                    refine wp_appT (.tmp 72) (.tmp 75) rfl wr.heap.size A10 (j + 1) c10 (E.take j ++ [x]) rfl HO10.out wr.heap.size A9 (k - j) (c2 - j) (E.drop j) rfl HLD.out (HR2.out _ HB10.out) (by omega) HB10.out.size ?_
                    intro A14 c14 w14 ho14 hg14 hb14
                    have HB14 := Lib.hid (HB10.out.trans hb14)
                    have HO14 := Lib.hid ho14
                    clear ho14 hg14 hb14
                    refine hK.out _ _ HB14.out (fun _ => ?_)
                    clear hK K
                    try simp only [List.getElem_toArray, List.getElem_cons_zero, List.getElem_cons_succ, Act.put, List.setIfInBounds_toArray, List.set_cons_zero, List.set_cons_succ]
                    refine wpAnyH_take (i := 15) (v := ?_) rfl (by kernel_rfl) (by kernel_rfl) (by kernel_rfl) (fun _ _ _ h => h) (Or.inl ⟨by rfl, ?_⟩) HB14.out ?_
                    rotate_left
                    · intro wS hSw
                      go_simp
                      try with_reducible rfl
                    try simp only [List.getElem_toArray, List.getElem_cons_zero, List.getElem_cons_succ, Act.put, List.setIfInBounds_toArray, List.set_cons_zero, List.set_cons_succ]
                    refine wpAnyH_done (by kernel_rfl) ?_ _
                    go_wp2
                    go_roundw
                    case rel => exact ⟨kk + 1, j + 1 + (k - j), c14, A14, E.take j ++ [x] ++ E.drop j, by go_num, rfl, by omega, HE3, Lib.hid (HO14.out.lower (HLW.out)), Lib.hid (HLOW.out _ HB14.out).1, Lib.hid (HLOW.out _ HB14.out).2⟩
                    case measure => first | (simp [Go.RowKit.intOf]; done) | (simp [Go.RowKit.intOf]; omega)
                  · go_simp
                    have HBy : Hid (Below wr.heap.size wr ((wc.drew.alloc (.cells #[] 9)).alloc (.cells #[.string x] 9))) := Lib.hid (HB0.out.alloc HB0.out.size _)
                    have HOy : Hid (OwnT ((wc.drew.alloc (.cells #[] 9)).alloc (.cells #[.string x] 9)) wr.heap.size (some ⟨wc.heap.size, 0, none⟩) 0 0 []) := Lib.hid (HO0.out.via ((Below.refl _ _).alloc (Nat.le_refl _) _))
                    have HXy : Hid (Blk ((wc.drew.alloc (.cells #[] 9)).alloc (.cells #[.string x] 9)) (wc.heap.size + 1) 9 [Value.string x].toArray) := Lib.hid (by
                      have := Blk.new (wc.drew.alloc (.cells #[] 9)) 9 [Value.string x].toArray
                      have e : (wc.drew.alloc (.cells #[] 9)).heap.size = wc.heap.size + 1 := by simp
                      rw [e] at this
                      exact this)
                    obtain ⟨q9, hq9⟩ : ∃ q9, wc.heap.size + 1 = q9 := ⟨_, rfl⟩
                    have HQ9 : Hid (q9 ≠ wc.heap.size) := Lib.hid (by omega)
                    rw [hq9] at HXy
                    simp only [hq9]
                    clear hq9
                    refine hK.out _ _ HBy.out (fun _ => ?_)
                    clear hK K
                    try simp only [List.getElem_toArray, List.getElem_cons_zero, List.getElem_cons_succ, Act.put, List.setIfInBounds_toArray, List.set_cons_zero, List.set_cons_succ]
                    refine wpAnyH_ready (rs := [4]) (by kernel_rfl) (by simp) ?_
                    refine AllReadyH.cons rfl (fun K hK => ?_) AllReadyH.nil
                    refine wp_appT (.tmp 62) (.tmp 65) rfl wr.heap.size (some ⟨wc.heap.size, 0, none⟩) 0 0 [] rfl HOy.out wr.heap.size (some ⟨g2, 0, none⟩) j c2 (E.take j) rfl HLJ.out (HR1.out _ HBy.out) (by omega) HBy.out.size ?_
                    intro A4 c4 w4 ho4 hg4 hb4
                    simp only [Nat.zero_add, List.nil_append] at ho4 ⊢
                    have HB9 := Lib.hid (HBy.out.trans hb4)
                    have HO9 := Lib.hid ho4
                    have HX9 : Hid (Blk w4 q9 9 [Value.string x].toArray) := Lib.hid ((hg4.block q9 HXy.out.lt (fun e => HQ9.out (by injection e))).trans HXy.out)
                    clear ho4 hg4 hb4
                    refine hK.out _ _ HB9.out (fun _ => ?_)
                    clear hK K
                    try simp only [List.getElem_toArray, List.getElem_cons_zero, List.getElem_cons_succ, Act.put, List.setIfInBounds_toArray, List.set_cons_zero, List.set_cons_succ]
                    refine wpAnyH_ready (rs := [10]) (by kernel_rfl) (by simp) ?_
                    refine AllReadyH.cons rfl (fun K hK => ?_) AllReadyH.nil
                    refine wp_appT (.tmp 66) (.tmp 71) rfl wr.heap.size A4 j c4 (E.take j) rfl HO9.out (q9 + 1) (some ⟨q9, 0, none⟩) 1 1 [x] rfl rfl (Rd.blk HX9.out) (by omega) HB9.out.size ?_
                    intro A10 c10 w10 ho10 hg10 hb10
                    have HB10 := Lib.hid (HB9.out.trans hb10)
                    have HO10 := Lib.hid ho10
                    clear ho10 hg10 hb10
                    refine hK.out _ _ HB10.out (fun _ => ?_)
                    clear hK K
                    try simp only [List.getElem_toArray, List.getElem_cons_zero, List.getElem_cons_succ, Act.put, List.setIfInBounds_toArray, List.set_cons_zero, List.set_cons_succ]
                    refine wpAnyH_ready (rs := [14]) (by kernel_rfl) (by simp) ?_
                    refine AllReadyH.cons rfl (fun K hK => ?_) AllReadyH.nil
                    refine wp_appT (.tmp 72) (.tmp 75) rfl wr.heap.size A10 (j + 1) c10 (E.take j ++ [x]) rfl HO10.out wr.heap.size A9 (k - j) (c2 - j) (E.drop j) rfl HLD.out (HR2.out _ HB10.out) (by omega) HB10.out.size ?_
                    intro A14 c14 w14 ho14 hg14 hb14
                    have HB14 := Lib.hid (HB10.out.trans hb14)
                    have HO14 := Lib.hid ho14
                    clear ho14 hg14 hb14
                    refine hK.out _ _ HB14.out (fun _ => ?_)
                    clear hK K
                    try simp only [List.getElem_toArray, List.getElem_cons_zero, List.getElem_cons_succ, Act.put, List.setIfInBounds_toArray, List.set_cons_zero, List.set_cons_succ]
                    refine wpAnyH_take (i := 15) (v := ?_) rfl (by kernel_rfl) (by kernel_rfl) (by kernel_rfl) (fun _ _ _ h => h) (Or.inl ⟨by rfl, ?_⟩) HB14.out ?_
                    rotate_left
                    · intro wS hSw
                      go_simp
                      try with_reducible rfl
                    try simp only [List.getElem_toArray, List.getElem_cons_zero, List.getElem_cons_succ, Act.put, List.setIfInBounds_toArray, List.set_cons_zero, List.set_cons_succ]
                    refine wpAnyH_done (by kernel_rfl) ?_ _
                    go_wp2
                    go_roundw
                    case rel => exact ⟨kk + 1, j + 1 + (k - j), c14, A14, E.take j ++ [x] ++ E.drop j, by go_num, rfl, by omega, HE3, Lib.hid (HO14.out.lower (HLW.out)), Lib.hid (HLOW.out _ HB14.out).1, Lib.hid (HLOW.out _ HB14.out).2⟩
                    case measure => first | (simp [Go.RowKit.intOf]; done) | (simp [Go.RowKit.intOf]; omega)
                · go_simp
                  have HBz : Hid (Below wr.heap.size wr (wc.drew.alloc (.cells #[.string x] 9))) := Lib.hid ((below_drewN HBw.out 1).alloc HBw.out.size _)
                  have HXz : Hid (Blk (wc.drew.alloc (.cells #[.string x] 9)) wc.heap.size 9 [Value.string x].toArray) := Lib.hid (Blk.new _ _ _)
                  obtain ⟨q9, hq9⟩ : ∃ q9, wc.heap.size = q9 := ⟨_, rfl⟩
                  have HQ9 : Hid (q9 = wc.heap.size) := Lib.hid (by omega)
                  rw [hq9] at HXz
                  simp only [hq9]
                  clear hq9
                  refine hK.out _ _ HBz.out (fun _ => ?_)
                  clear hK K
                  try simp only [List.getElem_toArray, List.getElem_cons_zero, List.getElem_cons_succ, Act.put, List.setIfInBounds_toArray, List.set_cons_zero, List.set_cons_succ]
                  refine wpAnyH_ready (rs := [0]) (by kernel_rfl) (by simp) ?_
                  refine AllReadyH.cons rfl (fun K hK => ?_) AllReadyH.nil
                  go_simp
                  have HBy : Hid (Below wr.heap.size wr ((wc.drew.alloc (.cells #[.string x] 9)).alloc (.cells #[] 9))) := Lib.hid (HBz.out.alloc HBz.out.size _)
                  have HOy : Hid (OwnT ((wc.drew.alloc (.cells #[.string x] 9)).alloc (.cells #[] 9)) wr.heap.size (some ⟨wc.heap.size + 1, 0, none⟩) 0 0 []) := Lib.hid (by
                    have := World.ownsRow_lit (base := wr.heap.size) (e := 9) (size := 1) (wc.drew.alloc (.cells #[.string x] 9)) #[] 0 HBz.out.size (by decide) rfl
                    have e : (wc.drew.alloc (.cells #[.string x] 9)).heap.size = wc.heap.size + 1 := by simp
                    rw [e] at this
                    exact this)
                  have HXy : Hid (Blk ((wc.drew.alloc (.cells #[.string x] 9)).alloc (.cells #[] 9)) q9 9 [Value.string x].toArray) := Lib.hid (HXz.out.alloc _)
                  refine hK.out _ _ HBy.out (fun _ => ?_)
                  clear hK K
                  try simp only [List.getElem_toArray, List.getElem_cons_zero, List.getElem_cons_succ, Act.put, List.setIfInBounds_toArray, List.set_cons_zero, List.set_cons_succ]
                  refine wpAnyH_ready (rs := [4]) (by kernel_rfl) (by simp) ?_
                  refine AllReadyH.cons rfl (fun K hK => ?_) AllReadyH.nil
                  refine wp_appT (.tmp 62) (.tmp 65) rfl wr.heap.size (some ⟨wc.heap.size + 1, 0, none⟩) 0 0 [] rfl HOy.out wr.heap.size (some ⟨g2, 0, none⟩) j c2 (E.take j) rfl HLJ.out (HR1.out _ HBy.out) (by omega) HBy.out.size ?_
                  intro A4 c4 w4 ho4 hg4 hb4
                  simp only [Nat.zero_add, List.nil_append] at ho4 ⊢
                  have HB9 := Lib.hid (HBy.out.trans hb4)
                  have HO9 := Lib.hid ho4
                  have HX9 : Hid (Blk w4 q9 9 [Value.string x].toArray) := Lib.hid ((hg4.block q9 HXy.out.lt (fun e => by have h1 := HQ9.out; have h2 : q9 = wc.heap.size + 1 := (by injection e); omega)).trans HXy.out)
                  clear ho4 hg4 hb4
                  refine hK.out _ _ HB9.out (fun _ => ?_)
                  clear hK K
                  try simp only [List.getElem_toArray, List.getElem_cons_zero, List.getElem_cons_succ, Act.put, List.setIfInBounds_toArray, List.set_cons_zero, List.set_cons_succ]
                  refine wpAnyH_ready (rs := [10]) (by kernel_rfl) (by simp) ?_
                  refine AllReadyH.cons rfl (fun K hK => ?_) AllReadyH.nil
                  refine wp_appT (.tmp 66) (.tmp 71) rfl wr.heap.size A4 j c4 (E.take j) rfl HO9.out (q9 + 1) (some ⟨q9, 0, none⟩) 1 1 [x] rfl rfl (Rd.blk HX9.out) (by omega) HB9.out.size ?_
                  intro A10 c10 w10 ho10 hg10 hb10
                  have HB10 := Lib.hid (HB9.out.trans hb10)
                  have HO10 := Lib.hid ho10
                  clear ho10 hg10 hb10
                  refine hK.out _ _ HB10.out (fun _ => ?_)
                  clear hK K
                  try simp only [List.getElem_toArray, List.getElem_cons_zero, List.getElem_cons_succ, Act.put, List.setIfInBounds_toArray, List.set_cons_zero, List.set_cons_succ]
                  refine wpAnyH_ready (rs := [14]) (by kernel_rfl) (by simp) ?_
                  refine AllReadyH.cons rfl (fun K hK => ?_) AllReadyH.nil
                  refine wp_appT (.tmp 72) (.tmp 75) rfl wr.heap.size A10 (j + 1) c10 (E.take j ++ [x]) rfl HO10.out wr.heap.size A9 (k - j) (c2 - j) (E.drop j) rfl HLD.out (HR2.out _ HB10.out) (by omega) HB10.out.size ?_
                  intro A14 c14 w14 ho14 hg14 hb14
                  have HB14 := Lib.hid (HB10.out.trans hb14)
                  have HO14 := Lib.hid ho14
                  clear ho14 hg14 hb14
                  refine hK.out _ _ HB14.out (fun _ => ?_)
                  clear hK K
                  try simp only [List.getElem_toArray, List.getElem_cons_zero, List.getElem_cons_succ, Act.put, List.setIfInBounds_toArray, List.set_cons_zero, List.set_cons_succ]
                  refine wpAnyH_take (i := 15) (v := ?_) rfl (by kernel_rfl) (by kernel_rfl) (by kernel_rfl) (fun _ _ _ h => h) (Or.inl ⟨by rfl, ?_⟩) HB14.out ?_
                  rotate_left
                  · intro wS hSw
                    go_simp
                    try with_reducible rfl
                  try simp only [List.getElem_toArray, List.getElem_cons_zero, List.getElem_cons_succ, Act.put, List.setIfInBounds_toArray, List.set_cons_zero, List.set_cons_succ]
                  refine wpAnyH_done (by kernel_rfl) ?_ _
                  go_wp2
                  go_roundw
                  case rel => exact ⟨kk + 1, j + 1 + (k - j), c14, A14, E.take j ++ [x] ++ E.drop j, by go_num, rfl, by omega, HE3, Lib.hid (HO14.out.lower (HLW.out)), Lib.hid (HLOW.out _ HB14.out).1, Lib.hid (HLOW.out _ HB14.out).2⟩
                  case measure => first | (simp [Go.RowKit.intOf]; done) | (simp [Go.RowKit.intOf]; omega)
        · have e2 : kk = 2 := by omega
          subst e2
          have HE2 : Hid (Ord.Rise (Ord.tips (L.take (i + 1))) E) := Lib.hid (by rw [HET.out]; exact HE.out)
          clear HE HK
          go_wp2
          go_roundw
          case rel => exact ⟨i + 1, k, c2, A2, E, by go_num, rfl, by omega, HE2, HO, HB⟩
          case measure => first | (simp [Go.RowKit.intOf]; done) | (simp [Go.RowKit.intOf]; omega)
    · have HTT : Hid (Ord.Rise (Ord.tips L) E) := Lib.hid (by
        have e : L.take i = L := List.take_of_length_le (by rw [HN.out]; omega)
        rw [← e]
        exact HE.out)
      clear HE
      go_wp2
      go_ret
      exact ⟨A2, k, c2, rfl, E, HO.out, HTT.out, HB.out⟩
end Cib
