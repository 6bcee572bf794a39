/- A pool: turned, Give, Later. -/
import Derived.Test.YtdhadhhhicnhpaaPolT
set_option linter.unusedVariables false
set_option linter.unusedSimpArgs false
set_option maxRecDepth 20000
namespace Bmp
/-- Is a place taken, and not in limbo? -/
def takenB (f : Nat) (O Z : List Bool) (a : Int) : Bool := decide ((f : Int) ≤ a) && has O (a - f) && !has Z (a - f)
/-- One place given back, or put in limbo. -/
def turn1 (later : Bool) (f : Nat) (s : Nat × List Bool × List Bool) (a : Int) : Nat × List Bool × List Bool :=
  if takenB f s.2.1 s.2.2 a then (s.1 + 1, if later then s.2.1 else s.2.1.set (a - f).toNat false, if later then s.2.2.set (a - f).toNat true else s.2.2) else s
def turnF (later : Bool) (f : Nat) (O Z : List Bool) (l : List Int) : Nat × List Bool × List Bool := l.foldl (turn1 later f) (0, O, Z)
theorem turnF_take {later : Bool} {f : Nat} {O Z : List Bool} {l : List Int} {k : Nat} (h : k < l.length) : turnF later f O Z (l.take (k + 1)) = turn1 later f (turnF later f O Z (l.take k)) l[k] := by
  unfold turnF
  rw [List.take_succ_eq_append_getElem h, List.foldl_append]
  rfl
theorem has_lt {bs : List Bool} {i : Int} (h : has bs i = true) : 0 ≤ i ∧ i < bs.length := by
  by_cases hx : 0 ≤ i ∧ i < bs.length
  · exact hx
  · rw [has_out hx] at h
    cases h
theorem turn1_len (later : Bool) (f : Nat) (s : Nat × List Bool × List Bool) (a : Int) : (turn1 later f s a).1 ≤ s.1 + 1 := by
  unfold turn1
  split
  · exact Nat.le_refl _
  · omega
theorem turnF_le (later : Bool) (f : Nat) (O Z : List Bool) (l : List Int) : ∀ k, k ≤ l.length → (turnF later f O Z (l.take k)).1 ≤ k
  | 0, _ => by simp [turnF]
  | k + 1, h => by
    rw [turnF_take (by omega)]
    have := turn1_len later f (turnF later f O Z (l.take k)) l[k]
    have := turnF_le later f O Z l k (by omega)
    omega
end Bmp
namespace Cib
open Go Go.RowKit Go.Proofs
def zv (a : Int) : Value := .int .i64 a
theorem rd_z {w : World} {B : Nat} {A : Option Addr} {L : List Int} (h : Rd w B A (L.map zv)) {k : Nat} (hk : k < L.length) : ∃ ad, A = some ad ∧ w.cell? (ad.add k) = some (.int .i64 L[k]) := by
  obtain ⟨ad, e, hb, hc⟩ := h (by intro e; simp at e; subst e; simp at hk)
  have := hc k (by simpa using hk)
  rw [List.getElem_map] at this
  exact ⟨ad, e, this⟩
/-- What a closure of the pool's captured box leaves. -/
structure TnI (w : World) (B g f : Nat) (x : PlP) (gb : Nat) (s : Nat × List Bool × List Bool) (wr : World) : Prop where
  pl : Pl wr B g f x s.2.1 s.2.2
  box : Blk wr gb 23 #[.pointer (some ⟨g, 0, none⟩)]
  below : Below B w wr
  same : Same [28] w wr
def closF (later : Bool) (gb : Nat) : Value := .func (.func (if later then 30 else 29)) #[] #[.pointer (some ⟨gb, 0, none⟩)]
theorem plGive1 {w wr : World} {B g f gb : Nat} {x : PlP} {s : Nat × List Bool × List Bool} (h : TnI w B g f x gb s wr) (i : Nat) (hi : i < s.2.1.length) :
    Calls Try.prog 29 #[.int .i64 (i : Int), .pointer (some ⟨gb, 0, none⟩)] wr fun e w' => e = .returned (.tuple #[]) ∧ TnI w B g f x gb (s.1 + 1, s.2.1.set i false, s.2.2) w' := by
  have HS := Lib.hid (plSetO h.pl i hi false)
  have c3 := h.pl.c3
  have b0 := h.box.cell 0
  have HT := Lib.hid h
  clear h hi
  go_enter Try.func29, Try.ntmps29
  go_wp2_with (go_at_call 26; refine HS.out.mono ?_; rintro e w4 ⟨⟨r, rfl⟩, hp4, hb4, hs4⟩)
  first | go_end0 | refine bodyPost_ret (results_none rfl _ _ _) rfl ?_
  exact ⟨rfl, hp4, HT.out.box.same hs4 (by decide), HT.out.below.trans hb4, HT.out.same.trans hs4⟩
theorem plLater1 {w wr : World} {B g f gb : Nat} {x : PlP} {s : Nat × List Bool × List Bool} (h : TnI w B g f x gb s wr) (i : Nat) (hi : i < s.2.1.length) :
    Calls Try.prog 30 #[.int .i64 (i : Int), .pointer (some ⟨gb, 0, none⟩)] wr fun e w' => e = .returned (.tuple #[]) ∧ TnI w B g f x gb (s.1 + 1, s.2.1, s.2.2.set i true) w' := by
  have HS := Lib.hid (plSetL h.pl i hi true)
  have c3 := h.pl.c4
  have b0 := h.box.cell 0
  have HT := Lib.hid h
  clear h hi
  go_enter Try.func30, Try.ntmps30
  go_wp2_with (go_at_call 26; refine HS.out.mono ?_; rintro e w4 ⟨⟨r, rfl⟩, hp4, hb4, hs4⟩)
  first | go_end0 | refine bodyPost_ret (results_none rfl _ _ _) rfl ?_
  exact ⟨rfl, hp4, HT.out.box.same hs4 (by decide), HT.out.below.trans hb4, HT.out.same.trans hs4⟩
theorem plClos (later : Bool) {w wr : World} {B g f gb : Nat} {x : PlP} {s : Nat × List Bool × List Bool} (h : TnI w B g f x gb s wr) (i : Nat) (hi : i < s.2.1.length) :
    Calls Try.prog (if later then 30 else 29) #[.int .i64 (i : Int), .pointer (some ⟨gb, 0, none⟩)] wr fun e w' => e = .returned (.tuple #[]) ∧ TnI w B g f x gb (s.1 + 1, if later then s.2.1 else s.2.1.set i false, if later then s.2.2.set i true else s.2.2) w' := by
  cases later
  · exact plGive1 h i hi
  · exact plLater1 h i hi
set_option maxHeartbeats 2000000 in
theorem plTurnedF {w : World} {B g f gb : Nat} {x : PlP} {O Z : List Bool} (h : TnI w B g f x gb (0, O, Z) w) (BL : Nat) (A : Option Addr) (n c : Nat) (L : List Int) (hn : L.length = n) (hn1 : n ≤ 65536) (hL : ∀ a ∈ L, -9223372036854775808 ≤ a ∧ a ≤ 9223372036854775807)
    (hr : ∀ w', Below B w w' → Same [28] w w' → Rd w' BL A (L.map zv)) :
    Calls Try.prog 28 #[.pointer (some ⟨g, 0, none⟩), .slice A n c, closF false gb] w fun e w' => e = .returned (.int .i64 ((Bmp.turnF false f O Z L).1 : Int)) ∧ TnI w B g f x gb (Bmp.turnF false f O Z L) w' := by
  have HNO := Lib.hid (plNone h.pl)
  have hfit := h.pl.fits
  have H0 : Hid (TnI w B g f x gb (Bmp.turnF false f O Z (L.take 0)) w) := Lib.hid h
  have HR := Lib.hid hr
  have HN := Lib.hid hn
  have HLB := Lib.hid hL
  have HCL := Lib.hid fun (s : Nat × List Bool × List Bool) (wr : World) (h : TnI w B g f x gb s wr) (i : Nat) (hi : i < s.2.1.length) => plClos false h i hi
  unfold closF
  simp only [Bool.false_eq_true, if_false, if_true] at HCL ⊢
  clear h hr hn hL
  go_enter Try.func28, Try.ntmps28
  go_wp2_with (go_at_call 24; refine HNO.out.mono ?_; rintro e w' ⟨rfl, rfl⟩)
  go_loopw [7, 15] (fun m i wr => ∃ k : Nat, i = .int .i64 k ∧ k ≤ n ∧ m = .int .i64 ((Bmp.turnF false f O Z (L.take k)).1 : Int) ∧ Hid (TnI w' B g f x gb (Bmp.turnF false f O Z (L.take k)) wr)) (fun _ i _ => n - (intOf i).toNat)
  case atStart => exact ⟨0, rfl, Nat.zero_le _, rfl, H0⟩
  case round =>
    obtain ⟨k, rfl, hk, rfl, hI⟩ := hrel
    have HTL : Hid ((Bmp.turnF false f O Z (L.take k)).1 ≤ k) := Lib.hid (Bmp.turnF_le false f O Z L k (by rw [HN.out]; exact hk))
    by_cases hlt : k < n
    · have hkL : k < L.length := by rw [HN.out]; exact hlt
      obtain ⟨ad, rfl, hc⟩ := rd_z (HR.out wr hI.out.below hI.out.same) hkL
      have hab := HLB.out _ (List.getElem_mem hkL)
      have HTK := Lib.hid (Bmp.turnF_take (later := false) (f := f) (O := O) (Z := Z) hkL)
      generalize L[k] = a at *
      generalize Bmp.turnF false f O Z (L.take k) = s at *
      have htl := HTL.out
      have c2 := hI.out.pl.c2
      have c3 := hI.out.pl.c3
      have c4 := hI.out.pl.c4
      have HHO := Lib.hid (bmHas hI.out.pl.mo (a - f))
      have HHL := Lib.hid (bmHas hI.out.pl.ml (a - f))
      by_cases ha : a < f
      · have HS : Hid (Bmp.turn1 false f s a = s) := Lib.hid (by unfold Bmp.turn1 Bmp.takenB; rw [decide_eq_false (by omega)]; rfl)
        go_wp2
        go_roundw
        case rel => exact ⟨k + 1, by go_num, hlt, by rw [HTK.out, HS.out], by rw [HTK.out, HS.out]; exact hI⟩
        case measure => simp [intOf]; omega
      · obtain ⟨r1, hr1⟩ : ∃ r, Bmp.has s.2.1 (a - f) = r := ⟨_, rfl⟩
        obtain ⟨r2, hr2⟩ : ∃ r, Bmp.has s.2.2 (a - f) = r := ⟨_, rfl⟩
        rw [hr1] at HHO
        rw [hr2] at HHL
        have HTB : Hid (Bmp.takenB f s.2.1 s.2.2 a = (r1 && !r2)) := Lib.hid (by unfold Bmp.takenB; rw [decide_eq_true (by omega), hr1, hr2]; rfl)
        have HS0 : Hid ((r1 && !r2) = false → Bmp.turn1 false f s a = s) := Lib.hid fun e => by unfold Bmp.turn1; rw [HTB.out, e]; rfl
        have HS1 : Hid ((r1 && !r2) = true → Bmp.turn1 false f s a = (s.1 + 1, if false then s.2.1 else s.2.1.set (a - f).toNat false, if false then s.2.2.set (a - f).toNat true else s.2.2)) := Lib.hid fun e => by unfold Bmp.turn1; rw [HTB.out, e]; rfl
        have HR1 : Hid (r1 = true → 0 ≤ a - (f : Int) ∧ a - (f : Int) < s.2.1.length) := Lib.hid fun e => Bmp.has_lt (hr1.trans e)
        clear hr1 hr2 HTB
        cases r1
        · have HS := Lib.hid (HS0.out rfl)
          clear HS0 HS1 HR1 HHL
          go_wp2_with (go_at_call 34; refine HHO.out.mono ?_; rintro e w4 ⟨rfl, rfl⟩)
          go_roundw
          case rel => exact ⟨k + 1, by go_num, hlt, by rw [HTK.out, HS.out], by rw [HTK.out, HS.out]; exact hI⟩
          case measure => simp [intOf]; omega
        · cases r2
          · have HS := Lib.hid (HS1.out rfl)
            obtain ⟨i, hi⟩ : ∃ i : Nat, a - (f : Int) = i := ⟨(a - (f : Int)).toNat, by have := HR1.out rfl; omega⟩
            have hii : (a - (f : Int)).toNat = i := by omega
            have HCC := Lib.hid (HCL.out s wr hI.out i (by have := HR1.out rfl; omega))
            rw [hii] at HS
            rw [hi] at HHO HHL
            clear HS0 HS1 HR1 HCL hii
            go_wp2_with fail
            refine HHO.out.mono ?_
            rintro e w4 ⟨rfl, rfl⟩
            go_wp2_with fail
            refine HHL.out.mono ?_
            rintro e w4 ⟨rfl, rfl⟩
            go_wp2_with fail
            refine HCC.out.mono ?_
            rintro e w5 ⟨rfl, hT5⟩
            go_wp2
            go_roundw
            case rel => exact ⟨k + 1, by go_num, hlt, by rw [HTK.out, HS.out]; go_num, by rw [HTK.out, HS.out]; exact hT5⟩
            case measure => simp [intOf]; omega
          · have HS := Lib.hid (HS0.out rfl)
            clear HS0 HS1 HR1
            go_wp2_with fail
            refine HHO.out.mono ?_
            rintro e w4 ⟨rfl, rfl⟩
            go_wp2_with fail
            refine HHL.out.mono ?_
            rintro e w4 ⟨rfl, rfl⟩
            go_wp2
            go_roundw
            case rel => exact ⟨k + 1, by go_num, hlt, by rw [HTK.out, HS.out], by rw [HTK.out, HS.out]; exact hI⟩
            case measure => simp [intOf]; omega
    · obtain rfl : k = n := by omega
      have HFT : Hid (L.take k = L) := Lib.hid (List.take_of_length_le (by rw [HN.out]; exact Nat.le_refl _))
      have hI2 := hI.out
      rw [HFT.out] at hI2 ⊢
      have HI2 := Lib.hid hI2
      clear hI2
      go_wp2
      go_ret
      exact ⟨rfl, HI2.out⟩
set_option maxHeartbeats 2000000 in
theorem plTurnedT {w : World} {B g f gb : Nat} {x : PlP} {O Z : List Bool} (h : TnI w B g f x gb (0, O, Z) w) (BL : Nat) (A : Option Addr) (n c : Nat) (L : List Int) (hn : L.length = n) (hn1 : n ≤ 65536) (hL : ∀ a ∈ L, -9223372036854775808 ≤ a ∧ a ≤ 9223372036854775807)
    (hr : ∀ w', Below B w w' → Same [28] w w' → Rd w' BL A (L.map zv)) :
    Calls Try.prog 28 #[.pointer (some ⟨g, 0, none⟩), .slice A n c, closF true gb] w fun e w' => e = .returned (.int .i64 ((Bmp.turnF true f O Z L).1 : Int)) ∧ TnI w B g f x gb (Bmp.turnF true f O Z L) w' := by
  have HNO := Lib.hid (plNone h.pl)
  have hfit := h.pl.fits
  have H0 : Hid (TnI w B g f x gb (Bmp.turnF true f O Z (L.take 0)) w) := Lib.hid h
  have HR := Lib.hid hr
  have HN := Lib.hid hn
  have HLB := Lib.hid hL
  have HCL := Lib.hid fun (s : Nat × List Bool × List Bool) (wr : World) (h : TnI w B g f x gb s wr) (i : Nat) (hi : i < s.2.1.length) => plClos true h i hi
  unfold closF
  simp only [Bool.false_eq_true, if_false, if_true] at HCL ⊢
  clear h hr hn hL
  go_enter Try.func28, Try.ntmps28
  go_wp2_with (go_at_call 24; refine HNO.out.mono ?_; rintro e w' ⟨rfl, rfl⟩)
  go_loopw [7, 15] (fun m i wr => ∃ k : Nat, i = .int .i64 k ∧ k ≤ n ∧ m = .int .i64 ((Bmp.turnF true f O Z (L.take k)).1 : Int) ∧ Hid (TnI w' B g f x gb (Bmp.turnF true f O Z (L.take k)) wr)) (fun _ i _ => n - (intOf i).toNat)
  case atStart => exact ⟨0, rfl, Nat.zero_le _, rfl, H0⟩
  case round =>
    obtain ⟨k, rfl, hk, rfl, hI⟩ := hrel
    have HTL : Hid ((Bmp.turnF true f O Z (L.take k)).1 ≤ k) := Lib.hid (Bmp.turnF_le true f O Z L k (by rw [HN.out]; exact hk))
    by_cases hlt : k < n
    · have hkL : k < L.length := by rw [HN.out]; exact hlt
      obtain ⟨ad, rfl, hc⟩ := rd_z (HR.out wr hI.out.below hI.out.same) hkL
      have hab := HLB.out _ (List.getElem_mem hkL)
      have HTK := Lib.hid (Bmp.turnF_take (later := true) (f := f) (O := O) (Z := Z) hkL)
      generalize L[k] = a at *
      generalize Bmp.turnF true f O Z (L.take k) = s at *
      have htl := HTL.out
      have c2 := hI.out.pl.c2
      have c3 := hI.out.pl.c3
      have c4 := hI.out.pl.c4
      have HHO := Lib.hid (bmHas hI.out.pl.mo (a - f))
      have HHL := Lib.hid (bmHas hI.out.pl.ml (a - f))
      by_cases ha : a < f
      · have HS : Hid (Bmp.turn1 true f s a = s) := Lib.hid (by unfold Bmp.turn1 Bmp.takenB; rw [decide_eq_false (by omega)]; rfl)
        go_wp2
        go_roundw
        case rel => exact ⟨k + 1, by go_num, hlt, by rw [HTK.out, HS.out], by rw [HTK.out, HS.out]; exact hI⟩
        case measure => simp [intOf]; omega
      · obtain ⟨r1, hr1⟩ : ∃ r, Bmp.has s.2.1 (a - f) = r := ⟨_, rfl⟩
        obtain ⟨r2, hr2⟩ : ∃ r, Bmp.has s.2.2 (a - f) = r := ⟨_, rfl⟩
        rw [hr1] at HHO
        rw [hr2] at HHL
        have HTB : Hid (Bmp.takenB f s.2.1 s.2.2 a = (r1 && !r2)) := Lib.hid (by unfold Bmp.takenB; rw [decide_eq_true (by omega), hr1, hr2]; rfl)
        have HS0 : Hid ((r1 && !r2) = false → Bmp.turn1 true f s a = s) := Lib.hid fun e => by unfold Bmp.turn1; rw [HTB.out, e]; rfl
        have HS1 : Hid ((r1 && !r2) = true → Bmp.turn1 true f s a = (s.1 + 1, if true then s.2.1 else s.2.1.set (a - f).toNat false, if true then s.2.2.set (a - f).toNat true else s.2.2)) := Lib.hid fun e => by unfold Bmp.turn1; rw [HTB.out, e]; rfl
        have HR1 : Hid (r1 = true → 0 ≤ a - (f : Int) ∧ a - (f : Int) < s.2.1.length) := Lib.hid fun e => Bmp.has_lt (hr1.trans e)
        clear hr1 hr2 HTB
        cases r1
        · have HS := Lib.hid (HS0.out rfl)
          clear HS0 HS1 HR1 HHL
          go_wp2_with (go_at_call 34; refine HHO.out.mono ?_; rintro e w4 ⟨rfl, rfl⟩)
          go_roundw
          case rel => exact ⟨k + 1, by go_num, hlt, by rw [HTK.out, HS.out], by rw [HTK.out, HS.out]; exact hI⟩
          case measure => simp [intOf]; omega
        · cases r2
          · have HS := Lib.hid (HS1.out rfl)
            obtain ⟨i, hi⟩ : ∃ i : Nat, a - (f : Int) = i := ⟨(a - (f : Int)).toNat, by have := HR1.out rfl; omega⟩
            have hii : (a - (f : Int)).toNat = i := by omega
            have HCC := Lib.hid (HCL.out s wr hI.out i (by have := HR1.out rfl; omega))
            rw [hii] at HS
            rw [hi] at HHO HHL
            clear HS0 HS1 HR1 HCL hii
            go_wp2_with fail
            refine HHO.out.mono ?_
            rintro e w4 ⟨rfl, rfl⟩
            go_wp2_with fail
            refine HHL.out.mono ?_
            rintro e w4 ⟨rfl, rfl⟩
            go_wp2_with fail
            refine HCC.out.mono ?_
            rintro e w5 ⟨rfl, hT5⟩
            go_wp2
            go_roundw
            case rel => exact ⟨k + 1, by go_num, hlt, by rw [HTK.out, HS.out]; go_num, by rw [HTK.out, HS.out]; exact hT5⟩
            case measure => simp [intOf]; omega
          · have HS := Lib.hid (HS0.out rfl)
            clear HS0 HS1 HR1
            go_wp2_with fail
            refine HHO.out.mono ?_
            rintro e w4 ⟨rfl, rfl⟩
            go_wp2_with fail
            refine HHL.out.mono ?_
            rintro e w4 ⟨rfl, rfl⟩
            go_wp2
            go_roundw
            case rel => exact ⟨k + 1, by go_num, hlt, by rw [HTK.out, HS.out], by rw [HTK.out, HS.out]; exact hI⟩
            case measure => simp [intOf]; omega
    · obtain rfl : k = n := by omega
      have HFT : Hid (L.take k = L) := Lib.hid (List.take_of_length_le (by rw [HN.out]; exact Nat.le_refl _))
      have hI2 := hI.out
      rw [HFT.out] at hI2 ⊢
      have HI2 := Lib.hid hI2
      clear hI2
      go_wp2
      go_ret
      exact ⟨rfl, HI2.out⟩
/-- What Give, Later leave. -/
structure GvR (later : Bool) (w : World) (B g f : Nat) (x : PlP) (O Z : List Bool) (L : List Int) (e : Ending) (w' : World) : Prop where
  res : e = .returned (.int .i64 ((Bmp.turnF later f O Z L).1 : Int))
  pl : Pl w' B g f x (Bmp.turnF later f O Z L).2.1 (Bmp.turnF later f O Z L).2.2
  below : Below B w w'
  same : Same [28] w w'
theorem plGive {w : World} {B g f : Nat} {x : PlP} {O Z : List Bool} (h : Pl w B g f x O Z) (hB : B ≤ w.heap.size) (BL : Nat) (A : Option Addr) (n c : Nat) (L : List Int) (hn : L.length = n) (hn1 : n ≤ 65536) (hL : ∀ a ∈ L, -9223372036854775808 ≤ a ∧ a ≤ 9223372036854775807)
    (hr : ∀ w', Below B w w' → Same [28] w w' → Rd w' BL A (L.map zv)) :
    Calls Try.prog 10 #[.pointer (some ⟨g, 0, none⟩), .slice A n c] w (GvR false w B g f x O Z L) := by
  have hb1 := (Below.refl B w).alloc hB (.cells #[.pointer (some ⟨g, 0, none⟩)] 23)
  have hs1 : Same [28] w (w.alloc (.cells #[.pointer (some ⟨g, 0, none⟩)] 23)) := Same.below ((Below.refl _ _).alloc (Nat.le_refl _) _)
  have HT := Lib.hid (plTurnedF (w := w.alloc (.cells #[.pointer (some ⟨g, 0, none⟩)] 23)) (gb := w.heap.size) (L := L) ⟨h.alloc _, Blk.new _ _ _, Below.refl _ _, Same.refl _ _⟩ BL A n c hn hn1 hL (fun w' h1 h2 => hr w' (hb1.trans h1) (hs1.trans h2)))
  have HB1 := Lib.hid hb1
  have HS1 := Lib.hid hs1
  unfold closF at HT
  simp only [Bool.false_eq_true, if_false] at HT
  clear h hr hb1 hs1
  go_enter Try.func10, Try.ntmps10
  go_wp2_with fail
  refine HT.out.mono ?_
  rintro e w3 ⟨rfl, hT3⟩
  go_wp2
  go_ret
  exact ⟨rfl, hT3.pl, HB1.out.trans hT3.below, HS1.out.trans hT3.same⟩
theorem plLater {w : World} {B g f : Nat} {x : PlP} {O Z : List Bool} (h : Pl w B g f x O Z) (hB : B ≤ w.heap.size) (BL : Nat) (A : Option Addr) (n c : Nat) (L : List Int) (hn : L.length = n) (hn1 : n ≤ 65536) (hL : ∀ a ∈ L, -9223372036854775808 ≤ a ∧ a ≤ 9223372036854775807)
    (hr : ∀ w', Below B w w' → Same [28] w w' → Rd w' BL A (L.map zv)) :
    Calls Try.prog 12 #[.pointer (some ⟨g, 0, none⟩), .slice A n c] w (GvR true w B g f x O Z L) := by
  have hb1 := (Below.refl B w).alloc hB (.cells #[.pointer (some ⟨g, 0, none⟩)] 23)
  have hs1 : Same [28] w (w.alloc (.cells #[.pointer (some ⟨g, 0, none⟩)] 23)) := Same.below ((Below.refl _ _).alloc (Nat.le_refl _) _)
  have HT := Lib.hid (plTurnedT (w := w.alloc (.cells #[.pointer (some ⟨g, 0, none⟩)] 23)) (gb := w.heap.size) (L := L) ⟨h.alloc _, Blk.new _ _ _, Below.refl _ _, Same.refl _ _⟩ BL A n c hn hn1 hL (fun w' h1 h2 => hr w' (hb1.trans h1) (hs1.trans h2)))
  have HB1 := Lib.hid hb1
  have HS1 := Lib.hid hs1
  unfold closF at HT
  simp only [if_true] at HT
  clear h hr hb1 hs1
  go_enter Try.func12, Try.ntmps12
  go_wp2_with fail
  refine HT.out.mono ?_
  rintro e w3 ⟨rfl, hT3⟩
  go_wp2
  go_ret
  exact ⟨rfl, hT3.pl, HB1.out.trans hT3.below, HS1.out.trans hT3.same⟩
end Cib
