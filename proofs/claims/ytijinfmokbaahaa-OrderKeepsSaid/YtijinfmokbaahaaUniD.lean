/- Order: DeleteFunc at any list of spans: those that aren't empty. -/
import Derived.Test.YtijinfmokbaahaaUniC
set_option linter.unusedVariables false
set_option linter.unusedSimpArgs false
set_option maxRecDepth 20000
namespace Cib
open Go Go.RowKit Go.Proofs
def ful (L : List Sn) : List Sn := L.filter fun s => !Ord.emp s.1 s.2
theorem ful_no {L : List Sn} (h : ∀ s ∈ L, Ord.emp s.1 s.2 = false) : ful L = L := List.filter_eq_self.2 fun s hs => by rw [h s hs]; rfl
/-- A delete under way: the first i are those of the first j that aren't empty, from j on nothing is changed. -/
structure DelI (L : List Sn) (i j : Nat) (d : Array Sn) : Prop where
  size : d.size = L.length
  lt : i < j
  le : j ≤ L.length
  pre : d.toList.take i = ful (L.take j)
  post : ∀ x (h : x < L.length), j ≤ x → d[x]! = L[x]
section
variable {L : List Sn} {i j : Nat} {d : Array Sn}
theorem DelI.start (hi : i < L.length) (he : Ord.emp L[i].1 L[i].2 = true) (hp : ∀ s ∈ L.take i, Ord.emp s.1 s.2 = false) : DelI L i (i + 1) L.toArray := by
  refine ⟨by simp, Nat.lt_succ_self _, hi, ?_, fun x h hx => by simp [h]⟩
  rw [List.take_succ_eq_append_getElem hi]
  unfold ful
  rw [List.filter_append]
  have : ([L[i]] : List Sn).filter (fun s => !Ord.emp s.1 s.2) = [] := by simp [he]
  rw [this, List.append_nil]
  exact (ful_no hp).symm
theorem DelI.skip (h : DelI L i j d) (hj : j < L.length) (he : Ord.emp L[j].1 L[j].2 = true) : DelI L i (j + 1) d := by
  refine ⟨h.size, by have := h.lt; omega, hj, ?_, fun x hx hjx => h.post x hx (by omega)⟩
  rw [List.take_succ_eq_append_getElem hj, h.pre]
  unfold ful
  rw [List.filter_append]
  have : ([L[j]] : List Sn).filter (fun s => !Ord.emp s.1 s.2) = [] := by simp [he]
  rw [this, List.append_nil]
theorem DelI.keep (h : DelI L i j d) (hj : j < L.length) (he : Ord.emp L[j].1 L[j].2 = false) : DelI L (i + 1) (j + 1) (d.setIfInBounds i L[j]) := by
  have hs := h.size
  have hlt := h.lt
  refine ⟨by simpa using hs, by omega, hj, ?_, fun x hx hjx => ?_⟩
  · rw [List.take_succ_eq_append_getElem hj]
    unfold ful
    rw [List.filter_append]
    have : ([L[j]] : List Sn).filter (fun s => !Ord.emp s.1 s.2) = [L[j]] := by simp [he]
    rw [this]
    have hp := h.pre
    unfold ful at hp
    rw [← hp, Array.toList_setIfInBounds]
    have hl : (d.toList.take i).length = i := by rw [List.length_take, Array.length_toList]; omega
    rw [List.take_set, List.take_succ_eq_append_getElem (by rw [Array.length_toList]; omega), List.set_append_right _ _ (by omega), hl, Nat.sub_self, List.set_cons_zero]
  · have e : (d.setIfInBounds i L[j])[x]! = d[x]! := by simp [getElem!_def, Array.getElem?_setIfInBounds, show ¬ i = x by omega]
    rw [e]
    exact h.post x hx (by omega)
end
set_option maxHeartbeats 2000000 in
theorem delAny (g n c B : Nat) (L : List Sn) (w : World) (h : Lies w g L.toArray) (hn : L.length = n) (hg : B ≤ g) (hnc : n ≤ c) (hc : c ≤ maxLen) (hs : n ≤ 1000) :
    Calls Try.prog 30 #[.slice (some ⟨g, 0, none⟩) n c, .func (.func 13) #[] #[]] w fun e w' =>
    ∃ m : Nat, e = .returned (.slice (some ⟨g, 0, none⟩) m c) ∧ m = (ful L).length ∧ Lies w' g (ful L).toArray ∧ Below B w w' := by
  have HN := Lib.hid hn
  have HG := Lib.hid h
  have hgw := h.lt
  have HIX := Lib.hid (idxAny 13 #[] (fun s => Ord.emp s.1 s.2) w (g + 1) n c (some ⟨g, 0, none⟩) L h.rd (by omega) hn hs (fun a W => by go_simp) (fun i hi W hW => ordEmptyB L[i] W))
  clear h hn
  unfold maxLen at hc
  go_enter Try.func30, Try.ntmps30
  go_upto_region 2 with (go_at_call 40; refine HIX.out.mono ?_; rintro e w1 ⟨v, rfl, hv, hb1⟩; have HV := Lib.hid hv; have HB1 := Lib.hid hb1; clear hv hb1 HIX)
  rcases HV.out with ⟨i, rfl, hiL, hyes, hpre⟩ | ⟨rfl, hall⟩
  · have hin : i < n := by rw [← HN.out]; exact hiL
    have hi1 : ((i : Int) == -1) = false := beq_eq_false_iff_ne.2 (by omega)
    have HD := Lib.hid (DelI.start hiL hyes hpre)
    have HG1 := Lib.hid (HG.out.below HB1.out hgw)
    have HBB : Hid (Below B w w1) := Lib.hid (HB1.out.mono (by omega))
    have hgw1 : g < w1.heap.size := HG1.out.lt
    clear HV hiL hyes hpre HG HB1
    go_wp2
    go_loopw [5, 6] (fun x5 x6 wx => ∃ (i j : Nat) (d : Array Sn), x5 = .int .i64 i ∧ x6 = .int .i64 j ∧ i < j ∧ j ≤ n ∧ Hid (DelI L i j d) ∧ Hid (Lies wx g d) ∧ Hid (Below B w wx)) (fun _ x6 _ => n - (intOf x6).toNat)
    case atStart => exact ⟨i, i + 1, L.toArray, rfl, by go_num, by omega, by omega, HD, HG1, HBB⟩
    case round =>
      clear HD HG1 HBB hgw1
      obtain ⟨i, j, d, rfl, rfl, hij, hj, HD, HL, HB⟩ := hrel
      by_cases hlt : j < n
      · have hjL : j < L.length := by rw [HN.out]; exact hlt
        have hds : d.size = n := HD.out.size.trans HN.out
        have hjd : j < d.size := by omega
        have hid : i < d.size := by omega
        have HX : Hid (d[j]! = L[j]) := HD.out.post j hjL (Nat.le_refl _)
        have HK : Hid (Ord.emp L[j].1 L[j].2 = false → DelI L (i + 1) (j + 1) (d.setIfInBounds i L[j])) := HD.out.keep hjL
        have HS : Hid (Ord.emp L[j].1 L[j].2 = true → DelI L i (j + 1) d) := HD.out.skip hjL
        have hc1 := HL.out.at0 hjd HX.out.symm
        have hc2 := HL.out.at1 hjd HX.out.symm
        have HP := Lib.hid (fun W (h : Lies W g d) => h.put hid L[j])
        generalize L[j] = x at *
        obtain ⟨f, t⟩ := x
        dsimp only at hc1 hc2
        have HC : Hid (∀ W, _) := Lib.hid (fun W => ordEmptyB (f, t) W)
        have HL1 : Hid (Lies (wr.alloc (.cells #[.string f, .string t] 26)) g d) := Lib.hid (HL.out.below ((Below.refl _ _).alloc (Nat.le_refl _) _) HL.out.lt)
        have hgr := HL.out.lt
        have hBr : B ≤ wr.heap.size := by omega
        have HIJ := Lib.hid (And.intro hjd hid)
        unfold sp at HC
        dsimp only at HC HK HS
        generalize Ord.emp f t = r at *
        clear hjL hds hjd HX HD
        have HQ : Hid (∀ w2, Below (wr.alloc (.cells #[.string f, .string t] 26)).heap.size (wr.alloc (.cells #[.string f, .string t] 26)) w2 → Lies w2 g d ∧ Below B w w2 ∧ w2.cell? ⟨wr.heap.size, 0, none⟩ = some (.string f) ∧ w2.cell? ⟨wr.heap.size, 1, none⟩ = some (.string t)) := Lib.hid (fun w2 hb2 => by
          have hk := (Blk.new wr 26 #[.string f, .string t]).below hb2 (by simp)
          exact ⟨HL1.out.below hb2 HL1.out.lt, (HB.out.alloc hBr _).trans (hb2.mono (by simp; omega)), hk.cell 0, hk.cell 1⟩)
        cases r
        · have HK2 := Lib.hid (HK.out (by trivial))
          go_wp2_with (first | (refine (HC.out _).mono ?_; rintro e w2 ⟨rfl, hb2⟩; obtain ⟨L2, B2, q1, q2⟩ := HQ.out w2 hb2; have HL2 := Lib.hid L2; have HB2 := Lib.hid B2; have s1 := L2.ex (i * 2) (i * 2) (.string f) (by have := HIJ.out.2; omega); have s2 := L2.c0 HIJ.out.2; have f1 := L2.fr (i * 2); have f2 := L2.fr (i * 2 + 1); obtain ⟨v3, s3⟩ := L2.ex (i * 2 + 1) (i * 2) (.string f) (by have := HIJ.out.2; omega); clear L2 B2 hb2 s1))
          go_roundw
          case rel => exact ⟨i + 1, j + 1, _, by go_num, by go_num, by omega, by omega, HK2, Lib.hid (HP.out w2 HL2.out), Lib.hid ((HB2.out.setCell hg _).setCell hg _)⟩
          case measure => first | (simp [Go.RowKit.intOf]; done) | (simp [Go.RowKit.intOf]; omega)
        · have HK2 := Lib.hid (HS.out (by trivial))
          go_wp2_with (first | (refine (HC.out _).mono ?_; rintro e w2 ⟨rfl, hb2⟩; obtain ⟨L2, B2, q1, q2⟩ := HQ.out w2 hb2; have HL2 := Lib.hid L2; have HB2 := Lib.hid B2; clear L2 B2 hb2))
          go_roundw
          case rel => exact ⟨i, j + 1, d, rfl, by go_num, by omega, by omega, HK2, HL2, HB2⟩
          case measure => first | (simp [Go.RowKit.intOf]; done) | (simp [Go.RowKit.intOf]; omega)
      · have hjn : j = n := by omega
        have hil : i < n := by omega
        obtain ⟨k, hk⟩ : ∃ k, k + 1 = n - i := ⟨n - i - 1, by omega⟩
        obtain ⟨w3, hcl, hl3, hb3⟩ := run_clearN wr g i k (c - i) 0 d HL.out (by have := HD.out.size; have := HN.out; omega)
        rw [hk] at hcl
        have HL3 := Lib.hid hl3
        have HB3 := Lib.hid (hb3 B w hg HB.out)
        have HP : Hid (d.toList.take i = ful L) := Lib.hid (by rw [HD.out.pre, hjn, ← HN.out, List.take_length])
        have HI2 : Hid (i = (ful L).length) := Lib.hid (by rw [← HP.out, List.length_take, Array.length_toList, HD.out.size, HN.out]; omega)
        have hinz : (i : Int) ≤ (n : Int) := by omega
        have hicz : (i : Int) ≤ (c : Int) := by omega
        have hnlt : ¬ (j : Int) < (n : Int) := by omega
        clear hl3 hb3 HL HB HD hjn hk
        go_wp2
        go_ret
        exact ⟨i, rfl, HI2.out, by rw [← HP.out]; exact HL3.out, HB3.out⟩
  · have HG1 := Lib.hid (HG.out.below HB1.out hgw)
    have HBB : Hid (Below B w w1) := Lib.hid (HB1.out.mono (by omega))
    have HF : Hid (ful L = L) := ful_no hall
    clear HV hall
    go_wp2
    go_ret
    exact ⟨_, rfl, by rw [HF.out, HN.out], by rw [HF.out]; exact HG1.out, HBB.out⟩
end Cib
