/- Records: what where, fits, Right tell; a change in memory. -/
import Derived.Test.YtmabmhiombnngaaFrmR
import Derived.Test.YtmabmhiombnngaaFrmA
import Derived.Test.YtmabmhiombnngaaRowsK
set_option linter.unusedVariables false
set_option linter.unusedSimpArgs false
set_option maxRecDepth 40000
namespace Cib
open Go Go.RowKit Go.Proofs
theorem rd_i64 {w : World} {B : Nat} {A : Option Addr} {L : List Int} (h : Rd w B A (L.map (Value.int .i64))) {k : Nat} (hk : k < L.length) : ∃ ad, A = some ad ∧ ad.block < B ∧ w.cell? (ad.add k) = some (.int .i64 L[k]) := by
  obtain ⟨ad, e, hb, hc⟩ := h (by intro e; simp at e; subst e; simp at hk)
  have := hc k (by simpa using hk)
  rw [List.getElem_map] at this
  exact ⟨ad, e, hb, this⟩
theorem frmWhere (A : Option Addr) (n k : Nat) (l : List Int) (w : World) (B : Nat) (h : Rd w B A (l.map (Value.int .i64))) (hl : l.length = n) (hn : n ≤ 140737488355328) :
    Calls Try.prog 35 #[.slice A n k] w fun e w' => e = .returned (.bool (Frm.where_ l)) ∧ w' = w := by
  have HRD := Lib.hid h
  have HL := Lib.hid hl
  obtain ⟨r, hr⟩ : ∃ r, Hid (Frm.where_ l = r) := ⟨_, rfl⟩
  rw [hr.out]
  have HNO : Hid (¬ (∀ p ∈ l, 0 ≤ p ∧ p < 600) → r = false) := Lib.hid fun e => by rw [← hr.out]; unfold Frm.where_; rw [decide_eq_false e, Bool.false_and]
  have HYE : Hid ((∀ p ∈ l, 0 ≤ p ∧ p < 600) → r = decide (l.length ≤ 400)) := Lib.hid fun e => by rw [← hr.out]; unfold Frm.where_; rw [decide_eq_true e, Bool.true_and]
  clear hr h hl
  go_enter Try.func35, Try.ntmps35
  go_wp2
  go_loopw [4, 7] (fun _ i wr => ∃ p : Nat, i = .int .i64 p ∧ p ≤ n ∧ wr = w ∧ Hid (∀ x ∈ l.take p, 0 ≤ x ∧ x < 600)) (fun _ i _ => n - (intOf i).toNat)
  case atStart => exact ⟨0, rfl, Nat.zero_le _, rfl, Lib.hid (by intro x hx; simp at hx)⟩
  case round =>
    obtain ⟨p, rfl, hp, rfl, hA⟩ := hrel
    by_cases hlt : p < n
    · have hpl : p < l.length := by rw [HL.out]; exact hlt
      obtain ⟨ad, rfl, hab, hcx⟩ := rd_i64 HRD.out hpl
      have HTK := Lib.hid (List.take_succ_eq_append_getElem hpl)
      have HME := Lib.hid (List.getElem_mem hpl)
      generalize l[p] = x at *
      by_cases hx0 : x < 0
      · obtain rfl := HNO.out (fun e => by have := (e x HME.out).1; omega)
        clear hpl
        go_wp2
        go_ret
        exact ⟨rfl, rfl⟩
      have d1 : decide (x < 0) = false := decide_eq_false hx0
      by_cases hx1 : 600 ≤ x
      · obtain rfl := HNO.out (fun e => by have := (e x HME.out).2; omega)
        clear hpl
        go_wp2
        go_ret
        exact ⟨rfl, rfl⟩
      have d2 : decide (600 ≤ x) = false := decide_eq_false hx1
      have HA2 : Hid (∀ y ∈ l.take (p + 1), 0 ≤ y ∧ y < 600) := Lib.hid (by
        rw [HTK.out]
        intro y hy
        rcases List.mem_append.1 hy with hy | hy
        · exact hA.out y hy
        · rw [List.mem_singleton] at hy
          subst hy
          omega)
      clear hA hpl hx0 hx1
      go_wp2
      go_roundw
      case rel => exact ⟨p + 1, by go_num, hlt, by first | rfl | trivial, HA2⟩
      case measure => simp [intOf]; omega
    · obtain rfl : p = n := by omega
      obtain rfl := HYE.out (by
        have := hA.out
        rwa [List.take_of_length_le (by rw [HL.out]; exact Nat.le_refl _)] at this)
      have HLL := Lib.hid (show decide (l.length ≤ 400) = decide (p ≤ 400) by rw [HL.out])
      go_wp2
      go_ret
      refine ⟨?_, rfl⟩
      rw [HLL.out]
      first | rfl | (refine ret_eq (bool_eq ?_); exact decide_eq_decide.2 (by omega))
/-- A change in memory. -/
structure CgM where
  c : Frm.Chg
  A : Option Addr
  n : Nat
  k : Nat
def blV (x : CgM) : List Value := [.slice x.A x.n x.k, .int .u64 (x.c.blob.gen : Int), .int .i64 x.c.blob.size]
def CgM.row (x : CgM) : List Value := [.string x.c.key, .bool x.c.dead, .slice x.A x.n x.k, .int .u64 (x.c.blob.gen : Int), .int .i64 x.c.blob.size]
structure CgM.At (w : World) (B : Nat) (x : CgM) : Prop where
  rd : Rd w B x.A (x.c.blob.places.map (Value.int .i64))
  len : x.c.blob.places.length = x.n
  lim : x.n ≤ 140737488355328
  gen : x.c.blob.gen < 18446744073709551616
  key : x.c.key.size ≤ 140737488355328
  siz : -9223372036854775808 ≤ x.c.blob.size ∧ x.c.blob.size ≤ 9223372036854775807
theorem CgM.At.below {w w' : World} {B : Nat} {x : CgM} (h : x.At w B) (hb : Below B w w') : x.At w' B := ⟨h.rd.below hb, h.len, h.lim, h.gen, h.key, h.siz⟩
theorem CgM.At.more {w : World} {B B' : Nat} {x : CgM} (h : x.At w B) (hb : B ≤ B') : x.At w B' := ⟨h.rd.more hb, h.len, h.lim, h.gen, h.key, h.siz⟩
set_option maxHeartbeats 1000000 in
/-- The part of fits behind what is asked of the dead. -/
theorem frmFitsGo (key : ByteArray) (dead : Bool) (pl : List Int) (gen : Nat) (size : Int) (A : Option Addr) (n k : Nat) (w : World) (h1 : Rd w w.heap.size A (pl.map (Value.int .i64))) (h2 : pl.length = n) (h3 : n ≤ 140737488355328) (h5 : key.size ≤ 140737488355328) (hd : dead = true → size = 0 ∧ n = 0 ∧ gen = 0) :
    Calls Try.prog 23 #[.agg #[.string key, .bool dead, .slice A n k, .int .u64 (gen : Int), .int .i64 size]] w fun e w' => e = .returned (.bool (decide (0 < key.size) && decide (key.size ≤ 16) && decide (0 ≤ size) && decide (size ≤ 400) && Frm.where_ pl)) ∧ Below w.heap.size w w' := by
  have hal : Below w.heap.size w ((w.alloc (.cells #[.string key, .bool dead, .slice A n k, .int .u64 (gen : Int), .int .i64 size] 57)).alloc (.cells #[.slice A n k, .int .u64 (gen : Int), .int .i64 size] 55)) := ((Below.refl _ _).alloc (Nat.le_refl _) _).alloc (by simp) _
  have HAL := Lib.hid hal
  have HWH := Lib.hid (frmWhere A n k pl ((w.alloc (.cells #[.string key, .bool dead, .slice A n k, .int .u64 (gen : Int), .int .i64 size] 57)).alloc (.cells #[.slice A n k, .int .u64 (gen : Int), .int .i64 size] 55)) w.heap.size (h1.below hal) h2 h3)
  obtain ⟨z, hz⟩ : ∃ z, Frm.where_ pl = z := ⟨_, rfl⟩
  rw [hz] at HWH ⊢
  clear hal hz h1 h2
  cases dead
  · clear hd
    go_enter Try.func23, Try.ntmps23
    go_wp2_with (go_at_call 35; refine HWH.out.mono ?_; rintro e w' ⟨rfl, rfl⟩)
    all_goals
      go_ret
      refine ⟨?_, HAL.out⟩
      first | rfl | (refine ret_eq (bool_eq ?_); simp; omega) | (refine ret_eq (bool_eq ?_); simp <;> omega)
  · obtain ⟨rfl, rfl, rfl⟩ := hd rfl
    clear hd
    go_enter Try.func23, Try.ntmps23
    go_wp2_with (go_at_call 35; refine HWH.out.mono ?_; rintro e w' ⟨rfl, rfl⟩)
    all_goals
      go_ret
      refine ⟨?_, HAL.out⟩
      first | rfl | (refine ret_eq (bool_eq ?_); simp; omega) | (refine ret_eq (bool_eq ?_); simp <;> omega)
set_option maxHeartbeats 1000000 in
theorem frmFits (x : CgM) (w : World) (h : x.At w w.heap.size) :
    Calls Try.prog 23 #[.agg #[.string x.c.key, .bool x.c.dead, .slice x.A x.n x.k, .int .u64 (x.c.blob.gen : Int), .int .i64 x.c.blob.size]] w fun e w' => e = .returned (.bool (Frm.fits x.c)) ∧ Below w.heap.size w w' := by
  obtain ⟨⟨key, dead, pl, gen, size⟩, A, n, k⟩ := x
  obtain ⟨h1, h2, h3, h4, h5, h6⟩ := h
  simp only at h1 h2 h3 h4 h5 h6 ⊢
  by_cases hd : dead = true → size = 0 ∧ n = 0 ∧ gen = 0
  · refine (frmFitsGo key dead pl gen size A n k w h1 h2 h3 h5 hd).mono ?_
    rintro e w' ⟨rfl, hb⟩
    refine ⟨?_, hb⟩
    congr 2
    unfold Frm.fits
    simp only
    have : (dead && decide (size ≠ 0 ∨ pl.length ≠ 0 ∨ gen ≠ 0)) = false := by
      cases dead
      · rfl
      · obtain ⟨a, b, c⟩ := hd rfl
        rw [Bool.true_and, decide_eq_false]
        rintro (h | h | h)
        · exact h a
        · exact h (by omega)
        · exact h c
    rw [this]
    rfl
  · obtain ⟨rfl, hnz⟩ : dead = true ∧ ¬ (size = 0 ∧ n = 0 ∧ gen = 0) := by
      cases dead
      · exact absurd (fun e => by cases e) hd
      · exact ⟨rfl, fun h => hd fun _ => h⟩
    have hF : Frm.fits ⟨key, true, ⟨pl, gen, size⟩⟩ = false := by
      unfold Frm.fits
      simp only
      rw [Bool.true_and, decide_eq_true (by rw [h2]; omega)]
      rfl
    rw [hF]
    have HAL := Lib.hid (((Below.refl w.heap.size w).alloc (Nat.le_refl _) (.cells #[.string key, .bool true, .slice A n k, .int .u64 (gen : Int), .int .i64 size] 57)).alloc (by simp) (.cells #[.slice A n k, .int .u64 (gen : Int), .int .i64 size] 55))
    clear hF hd h1 h2
    by_cases s0 : size = 0
    · by_cases n0 : n = 0
      · have g0 : gen ≠ 0 := fun e => hnz ⟨s0, n0, e⟩
        subst s0 n0
        clear hnz
        go_enter Try.func23, Try.ntmps23
        go_wp2_with fail
        all_goals
          go_ret
          exact ⟨rfl, HAL.out⟩
      · subst s0
        clear hnz
        go_enter Try.func23, Try.ntmps23
        go_wp2_with fail
        all_goals
          go_ret
          exact ⟨rfl, HAL.out⟩
    · clear hnz
      go_enter Try.func23, Try.ntmps23
      go_wp2_with fail
      all_goals
        go_ret
        exact ⟨rfl, HAL.out⟩
end Cib
