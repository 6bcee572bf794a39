/- Encode. -/
import Derived.Test.YtmfilmkdaokbbaaCodS
import Derived.Test.YtmfilmkdaokbbaaRowsN
set_option linter.unusedVariables false
set_option linter.unusedSimpArgs false
set_option maxRecDepth 40000
namespace Cib
open Go Go.RowKit Go.Proofs
theorem cdEncodeNo {w : World} {g gf k m c : Nat} {A : Option Addr} (h : Cdr w g gf k m A c) (L : List RowB) (B : Nat) (A2 : Option Addr) (n c2 : Nat) (hr : Rd w B A2 (L.map RowB.v)) (hl : ∀ r ∈ L, r.bs.length = r.n) (hn : L.length = n) (hn2 : n ≤ maxLen) (hno : ¬ (n = k ∧ Cod.evn (bss L) = true)) :
    Calls Try.prog 21 #[.pointer (some ⟨g, 0, none⟩), .slice A2 n c2] w fun e w' => e = .returned (.tuple #[.slice none 0 0, .int .i64 2]) ∧ w' = w := by
  have HN := Lib.hid (cdNone h)
  have HE := Lib.hid (cdRight h L B A2 n c2 hr hl hn hn2)
  rw [show (decide (n = k) && Cod.evn (L.map (·.bs))) = false from by
    rw [Bool.and_eq_false_iff]
    by_cases hk : n = k
    · right
      cases hb : Cod.evn (L.map (·.bs)) with
      | false => rfl
      | true => exact absurd ⟨hk, hb⟩ hno
    · left
      simp [hk]] at HE
  clear h hr hl hn hno
  go_enter Try.func21, Try.ntmps21
  go_wp2_with (first | (go_at_call 44; refine HN.out.mono ?_; rintro e w' ⟨rfl, rfl⟩) | (go_at_call 45; refine HE.out.mono ?_; rintro e w' ⟨rfl, rfl⟩))
  first | go_ret2 | go_ret
  exact ⟨rfl, rfl⟩
/-- The parity rows. -/
def Cod.pars (k : Nat) (D : List (List UInt8)) (p : Nat) : List (List UInt8) := (List.range p).map fun i => Cod.shard k D (k + i)
theorem Cod.pars_next (k : Nat) (D : List (List UInt8)) (p : Nat) : Cod.pars k D (p + 1) = Cod.pars k D p ++ [Cod.shard k D (k + p)] := by simp [Cod.pars, List.range_succ]
theorem Cod.pars_length (k : Nat) (D : List (List UInt8)) (p : Nat) : (Cod.pars k D p).length = p := by simp [Cod.pars]
/-- Encode under way. -/
structure EncI (w : World) (k : Nat) (D : List (List UInt8)) (p : Nat) (A : Option Addr) (c : Nat) (L : List RowB) (wr : World) : Prop where
  bs : L.map (·.bs) = Cod.pars k D p
  own : wr.ownsRow w.heap.size 22 1 (.slice A p c) p (L.map RowB.v)
  rows : RowsNew wr w.heap.size L
  below : Below w.heap.size w wr
theorem EncI.len {w wr : World} {k p c : Nat} {D : List (List UInt8)} {A : Option Addr} {L : List RowB} (h : EncI w k D p A c L wr) : L.length = p := by
  have := congrArg List.length h.bs
  rw [Cod.pars_length, List.length_map] at this
  exact this
theorem EncI.push {w wr w2 w3 : World} {k p c : Nat} {D : List (List UInt8)} {A A3 : Option Addr} {c3 : Nat} {L : List RowB} (h : EncI w k D p A c L wr) {r : RowB} (hr : r.bs = Cod.shard k D (k + p)) (hb : Below wr.heap.size wr w2)
    (ho : w2.ownsRow wr.heap.size 5 1 (.slice r.A r.n r.c) r.n (r.bs.map bv))
    (ho3 : w3.ownsRow w.heap.size 22 1 (.slice A3 (p + 1) c3) (p + 1) (L.map RowB.v ++ [r.v])) (hg : (w2.alloc (.cells #[r.v] 22)).grownBy w3 (Value.slice A p c).ownBlock) (hb3 : Below w.heap.size (w2.alloc (.cells #[r.v] 22)) w3) :
    EncI w k D (p + 1) A3 c3 (L ++ [r]) w3 where
  bs := by rw [List.map_append, h.bs, Cod.pars_next, ← hr]; rfl
  own := by rw [List.map_append]; exact ho3
  rows := ((h.rows.push hb h.below.size ho).below ((Below.refl _ _).alloc (Nat.le_refl _) _)).grown hg ((own_via h.own hb).alloc _) rowNe
  below := ((h.below.via hb).alloc (h.below.via hb).size _).trans hb3
set_option maxHeartbeats 1600000 in
theorem cdEncode {w : World} {g gf k m c : Nat} {A : Option Addr} (h : Cdr w g gf k m A c) (L : List RowB) (B : Nat) (A2 : Option Addr) (c2 : Nat) (hr : Rd w B A2 (L.map RowB.v)) (hR : RowsAt w B L) (hB : B ≤ w.heap.size) (hn : L.length = k) (hev : Cod.evn (bss L) = true) (hm : ∀ r ∈ L, r.n ≤ 1000000000) :
    Calls Try.prog 21 #[.pointer (some ⟨g, 0, none⟩), .slice A2 k c2] w (NewR (Cod.pars k (bss L) m) 0 w) := by
  have HN := Lib.hid (cdNone h)
  have hk1 := h.hk
  have hkm := h.hs
  have HE := Lib.hid (cdRight h L B A2 k c2 hr hR.lens hn (by unfold maxLen; omega))
  rw [show (decide (k = k) && Cod.evn (L.map (·.bs))) = true from by rw [decide_eq_true rfl]; exact hev] at HE
  have HC := Lib.hid h
  have HR := Lib.hid hr
  have HRR := Lib.hid hR
  have HM := Lib.hid hm
  have HLN := Lib.hid hn
  have hmk : ∀ W : World, (Instr.makeSlice 23 (.int .i64 0) (.int .i64 (m : Int))).run Try.prog W = .ok (.slice (some ⟨W.heap.size, 0, none⟩) 0 m) (W.alloc (.cells (madeCells #[.slice none 0 0] m) 22)) := makeR 0 m (Nat.zero_le _) (by omega)
  have h1 := h.c1
  clear h hr hR hm hn hev
  go_enter Try.func21, Try.ntmps21
  go_wp2_with fail
  refine HN.out.mono ?_
  rintro e w' ⟨rfl, rfl⟩
  go_wp2_with fail
  refine HE.out.mono ?_
  rintro e w1 ⟨rfl, rfl⟩
  have hal : Below w1.heap.size w1 (w1.alloc (.cells (madeCells #[.slice none 0 0] m) 22)) := (Below.refl _ _).alloc (Nat.le_refl _) _
  have h1a := (HC.out.below hal).c1
  clear hal
  go_wp2
  go_loopw [6, 7, 8, 28] (fun l _ _ i wr => ∃ (p : Nat) (A' : Option Addr) (c' : Nat) (M : List RowB), i = .int .i64 p ∧ p ≤ m ∧ l = .slice A' p c' ∧ Hid (EncI w1 k (bss L) p A' c' M wr)) (fun _ _ _ i _ => m - (intOf i).toNat)
  case atStart =>
    refine ⟨0, some ⟨w1.heap.size, 0, none⟩, m, [], rfl, Nat.zero_le _, rfl, ⟨rfl, ?_, RowsNew.nil, (Below.refl _ _).alloc (Nat.le_refl _) _⟩⟩
    have := own_made w1 w1.heap.size 22 (.slice none 0 0) 0 m (Nat.le_refl _) (Nat.zero_le _) (by unfold maxLen; omega)
    simpa using this
  case round =>
    clear h1a HN HE hmk h1
    obtain ⟨p, A', c', M, rfl, hp, rfl, HI⟩ := hrel
    by_cases hlt : p < m
    · have hC := HC.out.below HI.out.below
      have hc0 := hC.c0
      have HRW := Lib.hid (cdRow hC (k + p) (by omega))
      simp only [Int.natCast_add] at HRW
      have hz := HI.out.below.size
      have HCC := Lib.hid hC
      clear hC
      go_wp2_with fail
      refine HRW.out.mono ?_
      rintro e w2 ⟨Af, nf, cf, rfl, hnf, hof, hbf⟩
      rw [Cod.facRow_length] at hnf
      have HBW := Lib.hid (HI.out.below.via hbf)
      have HSM := Lib.hid (cdSum (HCC.out.below hbf) L w2.heap.size A2 k c2 ((HR.out.below (HBW.out.mono hB)).more (Nat.le_trans hB HBW.out.size)) (fun r hr => ((HRR.out r hr).below (HBW.out.mono hB)).more (Nat.le_trans hB HBW.out.size)) (Nat.le_refl _) HLN.out hk1 (by omega) HM.out Af cf (Cod.facRow k (k + p)) (Rd.of_own hof) (by rw [Cod.facRow_length]))
      rw [Cod.sum_shard (k + p) (by simpa [bss] using HLN.out)] at HSM
      subst hnf
      have HBF := Lib.hid hbf
      clear hbf hof HRW HCC
      go_wp2_with fail
      refine HSM.out.mono ?_
      rintro e w3 ⟨A3, n3, c3, rfl, hn3, ho3, hb3⟩
      have HB23 := Lib.hid (HBF.out.via hb3)
      have HO3 := Lib.hid (own_lower1 ho3 HBF.out.size)
      have HZ3 := HB23.out.size
      have HP := Lib.hid (fun A4 c4 w4 ho4 hg4 hb4 => HI.out.push (r := ⟨A3, n3, c3, Cod.shard k (bss L) (k + p)⟩) (w3 := w4) (A3 := A4) (c3 := c4) rfl HB23.out HO3.out ho4 hg4 hb4)
      have HOO := Lib.hid (own_via HI.out.own HB23.out)
      have HML := Lib.hid HI.out.len
      clear HI ho3 hb3 HSM
      go_wp2_with (at_builtin; refine appR _ rfl (.tmp 40) (.tmp 46) rfl w1.heap.size A' p c' (M.map RowB.v) rfl (HOO.out.alloc _) _ (some ⟨w3.heap.size, 0, none⟩) 1 1 [.slice A3 n3 c3] rfl rfl (Rd.new w3 _ _ _ rfl) (one_rows (L := [⟨A3, n3, c3, []⟩])) (by omega) (by simp; omega) ?_; intro A4 c4 w4 ho4 hg4 hb4)
      go_roundw
      case rel => exact ⟨p + 1, A4, c4, _, by go_num, hlt, rfl, HP.out A4 c4 w4 ho4 hg4 hb4⟩
      case measure => simp [intOf]; omega
    · obtain rfl : p = m := by omega
      have hI := HI.out
      have hl := hI.len
      go_wp2
      first | go_ret2 | go_ret
      exact ⟨A', p, c', M, rfl, hI.bs, hl, hI.own, hI.rows, hI.below⟩
end Cib
