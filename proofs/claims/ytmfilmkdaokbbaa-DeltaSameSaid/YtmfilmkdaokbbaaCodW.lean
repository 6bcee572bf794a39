/- A coder in memory; the small functions. -/
import Derived.Test.YtmfilmkdaokbbaaCodP
set_option linter.unusedVariables false
set_option linter.unusedSimpArgs false
set_option maxRecDepth 20000
namespace Cib
open Go Go.RowKit Go.Proofs
/-- A coder's cells. -/
def cdC (k m gf : Nat) (A : Option Addr) (c : Nat) : Array Value := #[.int .i64 (k : Int), .int .i64 (m : Int), .pointer (some ⟨gf, 0, none⟩), .int .i64 (m : Int), .int .i64 (k : Int), .slice A (m * k) c]
/-- A coder that was made. -/
structure Cdr (w : World) (g gf k m : Nat) (A : Option Addr) (c : Nat) : Prop where
  blk : Blk w g 64 (cdC k m gf A c)
  rd : Rd w w.heap.size A ((tabN k (cauV (Cod.ris k m) (Cod.ris 0 k)) (m * k)).map bv)
  full : Full w gf
  cap : m * k ≤ c
  max : c ≤ maxLen
  hk : 1 ≤ k
  hm : 1 ≤ m
  hs : k + m ≤ 255
section
variable {w w' : World} {g gf k m c : Nat} {A : Option Addr}
theorem Cdr.below (h : Cdr w g gf k m A c) (hb : Below w.heap.size w w') : Cdr w' g gf k m A c :=
  ⟨h.blk.below hb h.blk.lt, (h.rd.below hb).more hb.size, h.full.on hb, h.cap, h.max, h.hk, h.hm, h.hs⟩
theorem Cdr.drewN (h : Cdr w g gf k m A c) (q : Nat) : Cdr (w.drewN q) g gf k m A c := ⟨h.blk, h.rd, h.full, h.cap, h.max, h.hk, h.hm, h.hs⟩
theorem Cdr.c0 (h : Cdr w g gf k m A c) : w.cell? ⟨g, 0, none⟩ = some (.int .i64 (k : Int)) := h.blk.cell 0
theorem Cdr.c1 (h : Cdr w g gf k m A c) : w.cell? ⟨g, 1, none⟩ = some (.int .i64 (m : Int)) := h.blk.cell 1
theorem Cdr.c2 (h : Cdr w g gf k m A c) : w.cell? ⟨g, 2, none⟩ = some (.pointer (some ⟨gf, 0, none⟩)) := h.blk.cell 2
theorem Cdr.c3 (h : Cdr w g gf k m A c) : w.cell? ⟨g, 3, none⟩ = some (.int .i64 (m : Int)) := h.blk.cell 3
theorem Cdr.c4 (h : Cdr w g gf k m A c) : w.cell? ⟨g, 4, none⟩ = some (.int .i64 (k : Int)) := h.blk.cell 4
theorem Cdr.c5 (h : Cdr w g gf k m A c) : w.cell? ⟨g, 5, none⟩ = some (.slice A (m * k) c) := h.blk.cell 5
theorem cdNone (h : Cdr w g gf k m A c) : Calls Try.prog 44 #[.pointer (some ⟨g, 0, none⟩)] w fun e w' => e = .returned (.bool false) ∧ w' = w := by
  have h2 := h.c2
  go_enter Try.func44, Try.ntmps44
  go_wp2
  go_ret
  exact ⟨rfl, rfl⟩
theorem cdNone0 (w : World) : Calls Try.prog 44 #[.pointer none] w fun e w' => e = .returned (.bool true) ∧ w' = w := by
  go_enter Try.func44, Try.ntmps44
  go_wp2
  go_ret
  exact ⟨rfl, rfl⟩
theorem cdAll (h : Cdr w g gf k m A c) : Calls Try.prog 48 #[.pointer (some ⟨g, 0, none⟩)] w fun e w' => e = .returned (.int .i64 ((k : Int) + m)) ∧ w' = w.drew := by
  have h0 : w.drew.cell? ⟨g, 0, none⟩ = _ := h.c0
  have h1 : w.drew.cell? ⟨g, 1, none⟩ = _ := h.c1
  have hk := h.hk
  have hs := h.hs
  go_enter Try.func48, Try.ntmps48
  go_wp2
  go_region
  all_goals
    go_wp2
    go_ret
    exact ⟨rfl, rfl⟩
theorem cdData (h : Cdr w g gf k m A c) : Calls Try.prog 61 #[.pointer (some ⟨g, 0, none⟩)] w fun e w' => e = .returned (.int .i64 (k : Int)) ∧ w' = w := by
  have h0 := h.c0
  go_enter Try.func61, Try.ntmps61
  go_wp2
  go_ret
  exact ⟨rfl, rfl⟩
theorem cdK (h : Cdr w g gf k m A c) : Calls Try.prog 38 #[.pointer (some ⟨g, 0, none⟩)] w fun e w' => e = .returned (.int .i64 (k : Int)) ∧ w' = w := by
  have H1 := Lib.hid (cdNone h)
  have H2 := Lib.hid (cdData h)
  clear h
  go_enter Try.func38, Try.ntmps38
  go_wp2_with (first | (go_at_call 44; refine H1.out.mono ?_; rintro e w' ⟨rfl, rfl⟩) | (go_at_call 61; refine H2.out.mono ?_; rintro e w' ⟨rfl, rfl⟩))
  go_ret
  exact ⟨rfl, rfl⟩
theorem cdM (h : Cdr w g gf k m A c) : Calls Try.prog 35 #[.pointer (some ⟨g, 0, none⟩)] w fun e w' => e = .returned (.int .i64 (m : Int)) ∧ w' = w := by
  have H1 := Lib.hid (cdNone h)
  have h1 := h.c1
  clear h
  go_enter Try.func35, Try.ntmps35
  go_wp2_with (go_at_call 44; refine H1.out.mono ?_; rintro e w' ⟨rfl, rfl⟩)
  go_ret
  exact ⟨rfl, rfl⟩
theorem cdN (h : Cdr w g gf k m A c) : Calls Try.prog 28 #[.pointer (some ⟨g, 0, none⟩)] w fun e w' => e = .returned (.int .i64 ((k : Int) + m)) ∧ w' = w.drew := by
  have H1 := Lib.hid (cdNone h)
  have H2 := Lib.hid (cdAll h)
  clear h
  go_enter Try.func28, Try.ntmps28
  go_wp2_with (first | (go_at_call 44; refine H1.out.mono ?_; rintro e w' ⟨rfl, rfl⟩) | (go_at_call 48; refine H2.out.mono ?_; rintro e w' ⟨rfl, rfl⟩))
  go_ret
  exact ⟨rfl, rfl⟩
theorem cdField (h : Cdr w g gf k m A c) : Calls Try.prog 29 #[.pointer (some ⟨g, 0, none⟩)] w fun e w' => e = .returned (.pointer (some ⟨gf, 0, none⟩)) ∧ w' = w := by
  have H1 := Lib.hid (cdNone h)
  have h2 := h.c2
  clear h
  go_enter Try.func29, Try.ntmps29
  go_wp2_with (go_at_call 44; refine H1.out.mono ?_; rintro e w' ⟨rfl, rfl⟩)
  go_ret
  exact ⟨rfl, rfl⟩
theorem cdHas (h : Cdr w g gf k m A c) (i : Int) : Calls Try.prog 57 #[.pointer (some ⟨g, 0, none⟩), .int .i64 i] w fun e w' => e = .returned (.bool (decide (0 ≤ i ∧ i < (k : Int) + m))) ∧ Below w.heap.size w w' := by
  have H2 := Lib.hid (cdAll h)
  have hs := h.hs
  have hbl : Below w.heap.size w w.drew := below_drewN (Below.refl _ _) 1
  have HB := Lib.hid hbl
  clear h hbl
  by_cases h0 : 0 ≤ i
  · by_cases h1 : i < (k : Int) + m
    · rw [decide_eq_true ⟨h0, h1⟩]
      go_enter Try.func57, Try.ntmps57
      go_wp2_with (go_at_call 48; refine H2.out.mono ?_; rintro e w' ⟨rfl, rfl⟩)
      go_ret
      exact ⟨rfl, HB.out⟩
    · rw [decide_eq_false (fun x => h1 x.2)]
      have hd : decide (i < (k : Int) + m) = false := by simp; omega
      go_enter Try.func57, Try.ntmps57
      go_wp2_with (go_at_call 48; refine H2.out.mono ?_; rintro e w' ⟨rfl, rfl⟩)
      go_ret
      exact ⟨rfl, HB.out⟩
  · rw [decide_eq_false (fun x => h0 x.1)]
    go_enter Try.func57, Try.ntmps57
    go_wp2_with fail
    go_ret
    exact ⟨rfl, Below.refl _ _⟩
theorem cdOf (B : Nat) (A : Option Addr) (n k : Nat) (f : List UInt8) (j : Nat) (w : World) (hr : Rd w B A (f.map bv)) (hn : f.length = n) (hj : j < n) (hn2 : n ≤ 1000000000) :
    Calls Try.prog 47 #[.slice A n k, .int .i64 (j : Int)] w fun e w' => e = .returned (.int .u8 ((f.getD j 0).toNat : Int)) ∧ w' = w := by
  have hj' : j < f.length := by omega
  obtain ⟨ad, rfl, hb, hc⟩ := hr.byte hj'
  rw [show f.getD j 0 = f[j] from by simp [List.getD, hj']]
  generalize f[j].toNat = x at *
  go_enter Try.func47, Try.ntmps47
  go_wp2
  go_ret
  exact ⟨rfl, rfl⟩
end
/-- Are rows of one length? -/
theorem cdEven (L : List RowB) (B : Nat) (A : Option Addr) (n k : Nat) (w : World) (hr : Rd w B A (L.map RowB.v)) (hl : ∀ r ∈ L, r.bs.length = r.n) (hn : L.length = n) (hn2 : n ≤ maxLen) :
    Calls Try.prog 62 #[.slice A n k] w fun e w' => e = .returned (.bool (Cod.evn (L.map (·.bs)))) ∧ w' = w := by
  unfold maxLen at hn2
  have HR := Lib.hid hr
  have HL := Lib.hid hl
  have HN := Lib.hid hn
  have HE : Hid (Cod.evn (L.map (·.bs)) = true ↔ ∀ j (h : j < L.length), L[j].n = (L.map (·.n)).headD 0) := by
    show _ ↔ _
    have h0 : Cod.len0 (L.map (·.bs)) = (L.map (·.n)).headD 0 := by
      cases L with
      | nil => rfl
      | cons a l => simp [Cod.len0, hl a (by simp)]
    rw [Cod.evn_true, h0]
    constructor
    · intro h j hj
      rw [← hl _ (List.getElem_mem hj)]
      exact h _ (List.mem_map.2 ⟨_, List.getElem_mem hj, rfl⟩)
    · intro h r hr
      obtain ⟨x, hx, rfl⟩ := List.mem_map.1 hr
      obtain ⟨j, hj, rfl⟩ := List.mem_iff_getElem.1 hx
      rw [hl _ (List.getElem_mem hj)]
      exact h j hj
  obtain ⟨E, hE⟩ : ∃ E, Hid (Cod.evn (L.map (·.bs)) = E) := ⟨_, rfl⟩
  rw [hE.out] at HE ⊢
  clear hr hl hn hE
  go_enter Try.func62, Try.ntmps62
  go_wp2
  go_loopw [4, 7] (fun _ i wr => ∃ p : Nat, i = .int .i64 p ∧ p ≤ n ∧ wr = w ∧ Hid (∀ j (h : j < L.length), j < p → L[j].n = (L.map (·.n)).headD 0)) (fun _ i _ => n - (intOf i).toNat)
  case atStart => exact ⟨0, rfl, Nat.zero_le _, rfl, fun j _ hj => by omega⟩
  case round =>
    obtain ⟨p, rfl, hp, rfl, hI⟩ := hrel
    by_cases hlt : p < n
    · have hpl : p < L.length := by rw [HN.out]; exact hlt
      have h0l : 0 < L.length := by omega
      obtain ⟨ad, rfl, hab, hcell⟩ := HR.out.row hpl
      obtain ⟨ad', e0, hab0, hcell0⟩ := HR.out.row h0l
      injection e0 with e0
      subst e0
      rw [addr_add_zero] at hcell0
      have h00 : Hid (L[0].n = (L.map (·.n)).headD 0) := by
        show _ = _
        cases L with
        | nil => simp at h0l
        | cons a l => rfl
      by_cases he : L[p].n = L[0].n
      · have hI2 : Hid (∀ j (h : j < L.length), j < p + 1 → L[j].n = (L.map (·.n)).headD 0) := fun j h hj => by
          by_cases hjp : j = p
          · subst hjp
            exact he.trans h00.out
          · exact hI.out j h (by omega)
        rw [he] at hcell
        clear hI he
        go_wp2
        go_roundw
        case rel => exact ⟨p + 1, by go_num, hlt, by first | rfl | trivial, hI2⟩
        case measure => simp [intOf]; omega
      · obtain rfl : E = false := by
          cases E with
          | false => rfl
          | true => exact absurd ((HE.out.1 rfl p hpl).trans h00.out.symm) he
        generalize L[p] = r1 at *
        generalize L[0] = r0 at *
        have hne : ((r1.n : Int) != r0.n) = true := by rw [bne_iff_ne]; omega
        clear hI h00
        go_wp2
        go_ret
        exact ⟨rfl, rfl⟩
    · obtain rfl : p = n := by omega
      obtain rfl : E = true := HE.out.2 fun j hj => hI.out j hj (by rw [← HN.out]; exact hj)
      go_wp2
      go_ret
      exact ⟨rfl, rfl⟩
theorem cdRight {w : World} {g gf k m c : Nat} {A : Option Addr} (h : Cdr w g gf k m A c) (L : List RowB) (B : Nat) (A2 : Option Addr) (n c2 : Nat) (hr : Rd w B A2 (L.map RowB.v)) (hl : ∀ r ∈ L, r.bs.length = r.n) (hn : L.length = n) (hn2 : n ≤ maxLen) :
    Calls Try.prog 45 #[.pointer (some ⟨g, 0, none⟩), .slice A2 n c2] w fun e w' => e = .returned (.bool (decide (n = k) && Cod.evn (L.map (·.bs)))) ∧ w' = w := by
  have HE := Lib.hid (cdEven L B A2 n c2 w hr hl hn hn2)
  have h0 := h.c0
  clear hr hl hn h
  unfold maxLen at hn2
  generalize Cod.evn (L.map (·.bs)) = E at *
  by_cases he : n = k
  · subst he
    rw [decide_eq_true rfl]
    go_enter Try.func45, Try.ntmps45
    go_wp2_with (go_at_call 62; refine HE.out.mono ?_; rintro e w' ⟨rfl, rfl⟩)
    go_ret
    exact ⟨rfl, rfl⟩
  · rw [decide_eq_false he]
    have hne : ((n : Int) == (k : Int)) = false := by simp; omega
    go_enter Try.func45, Try.ntmps45
    go_wp2_with (go_at_call 62; refine HE.out.mono ?_; rintro e w' ⟨rfl, rfl⟩)
    go_ret
    exact ⟨rfl, rfl⟩
end Cib
