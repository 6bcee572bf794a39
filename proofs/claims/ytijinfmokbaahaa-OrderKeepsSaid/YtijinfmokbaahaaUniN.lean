/- Order: Minus at any list of spans. -/
import Derived.Test.YtijinfmokbaahaaUniK
set_option linter.unusedVariables false
set_option linter.unusedSimpArgs false
set_option maxRecDepth 20000
namespace Cib
open Go Go.RowKit Go.Proofs
section
variable {P : Nat → Prop} {g b : Nat} {L : List Sn} {w w' : World}
theorem Lies.bar {d : Array Sn} (h : Lies w b d) (hb : Bar P g w w') (hp : ¬ P b) (hg : b ≠ g) : Lies w' b d := by
  obtain ⟨cs, h1, h2⟩ := h
  exact ⟨cs, hb.blk h1 hp hg, h2⟩
theorem Own.raise {B k c : Nat} {A : Option Addr} (h : Own w 0 A k c L) (hb : ∀ b, (Value.slice A k c).ownBlock = some b → B ≤ b) : Own w B A k c L := by
  refine ⟨h.1, ?_⟩
  rcases h.2 with h0 | ⟨q, cap, cur, hv, _, h2, h3⟩
  · exact .inl h0
  · exact .inr ⟨q, cap, cur, hv, hb q (by rw [hv]; rfl), h2, h3⟩
end
/-- In the loop of Minus. -/
structure MinB (w w3 : World) (f t : ByteArray) (U : List Sn) (i : Nat) (wr : World) : Prop where
  out : Out (fun k => w3.heap.size ≤ k) (w.heap.size + 1) wr (Ord.without (f, t) (U.take i))
  bar : Bar (fun k => w3.heap.size ≤ k) (w.heap.size + 1) w3 wr
  span : Blk wr w.heap.size 26 #[.string f, .string t]
set_option maxHeartbeats 4000000 in
theorem minusAl (w : World) (B n c : Nat) (A : Option Addr) (L : List Sn) (f t : ByteArray) (hL : L.length = n) (h : Rd w B A (cellsL L)) (hB : B ≤ w.heap.size) (hn : n ≤ 45) (hA : A = none → n = 0) :
    Calls Try.prog 23 #[.slice A n c, .agg #[.string f, .string t]] w fun e w' =>
      ∃ (A' : Option Addr) (n' c' : Nat), e = .returned (.slice A' n' c') ∧ ∃ O : List Sn, Own w' w.heap.size A' n' c' O ∧ Ord.Canon O ∧ (∀ k, Ord.cov O k = (Ord.cov L k && !Ord.inn f t k)) ∧ n' ≤ n + 1 ∧ Below w.heap.size w w' := by
  have hbA : Below w.heap.size w ((w.alloc (.cells #[.string f, .string t] 26)).alloc (.cells #[.slice none 0 0] 32)) := ((Below.refl _ _).alloc (Nat.le_refl _) _).alloc (by simp) _
  have HU := Lib.hid (unionAl ((w.alloc (.cells #[.string f, .string t] 26)).alloc (.cells #[.slice none 0 0] 32)) B n c A L hL (h.below (hbA.mono hB)) (Nat.le_trans hB hbA.size) hn hA)
  have HBA := Lib.hid hbA
  have HK1 : Hid (Blk ((w.alloc (.cells #[.string f, .string t] 26)).alloc (.cells #[.slice none 0 0] 32)) w.heap.size 26 #[.string f, .string t]) := Lib.hid ((Blk.new _ _ _).alloc _)
  have HK2 : Hid (Blk ((w.alloc (.cells #[.string f, .string t] 26)).alloc (.cells #[.slice none 0 0] 32)) (w.heap.size + 1) 32 #[.slice none 0 0]) := by
    have := Blk.new (w.alloc (.cells #[.string f, .string t] 26)) 32 #[.slice none 0 0]
    have e : (w.alloc (.cells #[.string f, .string t] 26)).heap.size = w.heap.size + 1 := by simp
    rw [e] at this
    exact Lib.hid this
  have HZ : Hid (((w.alloc (.cells #[.string f, .string t] 26)).alloc (.cells #[.slice none 0 0] 32)).heap.size = w.heap.size + 2) := Lib.hid (by simp)
  clear h hL hB hA hbA
  go_enter Try.func23, Try.ntmps23
  go_wp2_with (go_at_call 21; refine HU.out.mono ?_; rintro e w3 ⟨A2, m, c2, rfl, U, ho3, hcan, hcov, hm, hb3⟩)
  have hmin : MinB w w3 f t U 0 w3 := by
    have hz := HZ.out
    have hsz := hb3.size
    refine ⟨⟨fun h => ?_, none, 0, 0, HK2.out.below hb3 (by omega), Own.nil, fun b hb => by cases hb⟩, Bar.refl _ _ _, HK1.out.below hb3 (by omega)⟩
    have h' : w3.heap.size ≤ w.heap.size + 1 := h
    omega
  have hsz3 : w.heap.size + 2 ≤ w3.heap.size := by have := HZ.out; have := hb3.size; omega
  have HMIN := Lib.hid hmin
  have HUC := Lib.hid (And.intro hcan hcov)
  have HOU := Lib.hid ho3
  have HBW : Hid (Below w.heap.size w w3) := Lib.hid (HBA.out.via hb3)
  have hlU : U.length = m := ho3.len
  have HLU := Lib.hid hlU
  have hcs : (A2 = none ∧ m = 0) ∨ ∃ g, A2 = some ⟨g, 0, none⟩ ∧ Lies w3 g U.toArray ∧ g < w3.heap.size ∧ w.heap.size + 2 ≤ g := by
    rcases ho3.cases with ⟨h1, h2, _⟩ | ⟨g, h1, h2, _, _, h3⟩
    · exact .inl ⟨h1, h2⟩
    · exact .inr ⟨g, h1, h3, h3.lt, by have := HZ.out; omega⟩
  have HCS := Lib.hid hcs
  clear hmin hcan hcov ho3 hlU hcs HU HK1 HK2 HZ hb3 HBA
  go_loopw [11] (fun x11 wx => ∃ i : Nat, x11 = .int .i64 i ∧ i ≤ m ∧ Hid (MinB w w3 f t U i wx)) (fun x11 _ => m - (Go.RowKit.intOf x11).toNat)
  case atStart => exact ⟨0, rfl, Nat.zero_le _, HMIN⟩
  case round =>
    clear HMIN
    obtain ⟨i, rfl, him, HI⟩ := hrel
    by_cases hlt : i < m
    · have hiU : i < U.length := by rw [HLU.out]; exact hlt
      rcases HCS.out with ⟨_, h0⟩ | ⟨gU, rfl, hLU, hgU, hgU2⟩
      · omega
      have hLr := hLU.bar HI.out.bar (fun h => by have h' : w3.heap.size ≤ gU := h; omega) (by omega)
      have hgr := hLr.lt
      obtain ⟨hc1, hc2⟩ := hLr.get hiU
      have eT : U.take (i + 1) = U.take i ++ [U[i]] := List.take_succ_eq_append_getElem hiU
      have HLEN : Hid ((Ord.without (f, t) (U.take i)).length ≤ 400) := Lib.hid (by
        have h1 := Ord.without_take (s := (f, t)) (L := U) i
        have h2 := HUC.out.1.lessLen (f, t)
        have h3 := HLU.out
        split at h2 <;> omega)
      generalize U[i] = x at *
      obtain ⟨xf, xt⟩ := x
      dsimp only at hc1 hc2
      have hs0 := HI.out.span.cell 0
      have hs1 := HI.out.span.cell 1
      simp only [List.getElem?_toArray, List.getElem?_cons_zero, List.getElem?_cons_succ] at hs0 hs1
      have hws := HI.out.span.lt
      have HBR := Lib.hid HI.out.bar
      have HOI := Lib.hid (HI.out.out.via ((Below.refl wr.heap.size wr).alloc (Nat.le_refl _) (.cells #[.string xf, .string xt] 26)))
      have HCT := Lib.hid (cutOut (fun k => w3.heap.size ≤ k) (w.heap.size + 1) _ (xf, xt) (f, t) (wr.alloc (.cells #[.string xf, .string xt] 26)) HOI.out HLEN.out (fun k hk => by have := HI.out.bar.size; simp at hk; omega))
      have HST : Hid (∀ w5, Out (fun k => w3.heap.size ≤ k) (w.heap.size + 1) w5 (Ord.without (f, t) (U.take i) ++ Ord.cutL (f, t) (xf, xt)) → Bar (fun k => w3.heap.size ≤ k) (w.heap.size + 1) (wr.alloc (.cells #[.string xf, .string xt] 26)) w5 → MinB w w3 f t U (i + 1) w5) := Lib.hid (fun w5 ho hb => by
        have hbw : Bar (fun k => w3.heap.size ≤ k) (w.heap.size + 1) wr w5 := (Bar.of ((Below.refl wr.heap.size wr).alloc (Nat.le_refl _) _)).trans hb
        refine ⟨?_, HBR.out.trans hbw, hbw.blk HI.out.span (fun h => ?_) (by omega)⟩
        · rw [eT, Ord.without_snoc]
          exact ho
        · have h' : w3.heap.size ≤ w.heap.size := h
          omega)
      clear HI hLU hLr eT HLEN hiU HBR HOI
      unfold keepV at HCT
      go_wp2_with (go_at_call 36; refine HCT.out.mono ?_; rintro e w5 ⟨rfl, ho5, hb5⟩)
      go_roundw
      case rel => exact ⟨i + 1, by go_num, by omega, Lib.hid (HST.out w5 ho5 hb5)⟩
      case measure => first | (simp [Go.RowKit.intOf]; done) | (simp [Go.RowKit.intOf]; omega)
    · have HFIN : Hid (∃ A' n' c', Blk wr (w.heap.size + 1) 32 #[.slice A' n' c'] ∧ ∃ O : List Sn, Own wr w.heap.size A' n' c' O ∧ Ord.Canon O ∧ (∀ k, Ord.cov O k = (Ord.cov L k && !Ord.inn f t k)) ∧ n' ≤ n + 1 ∧ Below w.heap.size w wr) := Lib.hid (by
        obtain ⟨A', k, c', hb, ho, hp⟩ := HI.out.out.has
        have e : U.take i = U := List.take_of_length_le (by rw [HLU.out]; omega)
        rw [e] at ho
        refine ⟨A', k, c', hb, _, ho.raise fun b hb => ?_, HUC.out.1.less (f, t), fun k => ?_, ?_, ?_⟩
        · have := hp b hb
          have h' : w3.heap.size ≤ b := this
          omega
        · rw [Ord.cov_without, HUC.out.2]
        · have h1 := HUC.out.1.lessLen (f, t)
          have h2 := ho.len
          have h3 := HLU.out
          split at h1 <;> omega
        · refine HBW.out.trans (HI.out.bar.below (by omega) (fun k hk h => ?_) (by omega))
          have h' : w3.heap.size ≤ k := h
          omega)
      clear HI HUC HOU HCS HBW
      obtain ⟨A', n', c', hb, O, hO⟩ := HFIN.out
      have HOO := Lib.hid hO
      have hc := hb.cell 0
      simp only [List.getElem?_toArray, List.getElem?_cons_zero] at hc
      clear hO hb HFIN
      go_wp2
      go_ret
      exact ⟨A', n', c', rfl, O, HOO.out⟩
end Cib
