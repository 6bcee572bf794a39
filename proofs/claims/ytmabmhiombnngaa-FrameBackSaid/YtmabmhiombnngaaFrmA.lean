/- All: all texts' pieces put together. -/
import Derived.Test.YtmabmhiombnngaaFrmK
set_option linter.unusedVariables false
set_option linter.unusedSimpArgs false
set_option maxRecDepth 20000
namespace Cib
open Go Go.RowKit Go.Proofs
theorem rows_dropR {w : World} {B : Nat} {L : List RowB} (h : RowsAt w B L) (k : Nat) : RowsAt w B (L.drop k) := fun r hr => h r (List.mem_of_mem_drop hr)
set_option maxHeartbeats 1000000 in
theorem frmAll (A : Option Addr) (n c : Nat) (L : List RowB) (w : World) (h : Rd w w.heap.size A (L.map RowB.v)) (hR : RowsAt w w.heap.size L) (hl : L.length = n) (hc : n ≤ c) (hcm : c ≤ maxLen) (hn : n ≤ 1000000) (hm : ∀ r ∈ L, r.n ≤ 1000000) :
    Calls Try.prog 18 #[.slice A n c] w (NewR (Frm.all (L.map (·.bs))).1 ((Frm.all (L.map (·.bs))).2 : Int) w) := by
  have HRD := Lib.hid h
  have HRR := Lib.hid hR
  have HL := Lib.hid hl
  have HM := Lib.hid hm
  unfold maxLen at hcm
  clear h hR hl hm
  unfold NewR
  obtain ⟨J, hJ⟩ : ∃ J, Frm.all (L.map (·.bs)) = J := ⟨_, rfl⟩
  rw [hJ]
  have HJ0 := Lib.hid hJ
  clear hJ
  obtain ⟨J1, J2⟩ := J
  simp only
  go_enter Try.func18, Try.ntmps18
  go_wp2
  go_loopw [4, 5, 6, 7, 8] (fun o i _ _ _ wr => ∃ (p : Nat) (M : List RowB) (Ao : Option Addr) (no co : Nat), i = .int .i64 p ∧ p ≤ n ∧ o = .slice Ao no co ∧ no ≤ p ∧ Hid (no = M.length) ∧ Hid (CutI w M Ao co wr) ∧ Hid (M.map (·.bs) ++ (Frm.all ((L.map (·.bs)).drop p)).1 = J1 ∧ p + (Frm.all ((L.map (·.bs)).drop p)).2 = J2)) (fun _ i _ _ _ _ => n - (intOf i).toNat)
  case atStart => exact ⟨0, [], none, 0, 0, rfl, Nat.zero_le _, rfl, Nat.le_refl _, Lib.hid rfl, Lib.hid (CutI.nil w), Lib.hid (by rw [List.drop_zero, HJ0.out]; exact ⟨rfl, Nat.zero_add _⟩)⟩
  case round =>
    clear HJ0
    obtain ⟨p, M, Ao, no, co, rfl, hp, rfl, hno, HNO, HI, HJ⟩ := hrel
    have hsl := fun V : World => run_cut_from (P := Try.prog) 33 26 Try.underlying33 sizeRow A n c p .i64 hp V
    have HJN := Lib.hid (frmJoin (cut A c p) (n - p) (c - p) (L.drop p) wr (by
      have := ((HRD.out.below HI.out.below).more HI.out.below.size).cut (c := c) (k := p) (by rw [List.length_map, HL.out]; exact hp) (by rw [List.length_map, HL.out]; exact hc)
      rw [← List.map_drop] at this
      exact this) (rows_dropR ((HRR.out.below HI.out.below).more HI.out.below.size) p) (by rw [List.length_drop, HL.out]) (by omega) (fun r hr => HM.out r (List.mem_of_mem_drop hr)))
    rw [List.map_drop] at HJN
    unfold JoinR at HJN
    have HLE := Lib.hid (Frm.joinF_le ((L.map (·.bs)).drop p) 0 0#32 [])
    have HAO := Lib.hid fun t k (h : Frm.joinF 0 0#32 [] ((L.map (·.bs)).drop p) = (t, k, 0)) => Frm.all_ok h
    have HAN := Lib.hid (Frm.all_no (l := (L.map (·.bs)).drop p))
    rw [List.length_drop, List.length_map, HL.out] at HLE
    obtain ⟨K, hK⟩ : ∃ K, Frm.joinF 0 0#32 [] ((L.map (·.bs)).drop p) = K := ⟨_, rfl⟩
    rw [hK] at HJN HLE HAO HAN
    clear hK
    obtain ⟨t, k, er⟩ := K
    simp only at HJN HLE HAN
    generalize cut A c p = Ap at *
    go_wp2_with fail
    refine HJN.out.mono ?_
    rintro e w2 ⟨A2, n2, c2, rfl, hl2, ho2, hb2⟩
    have hsz := HI.out.below.size
    by_cases he : er = 0
    · subst he
      obtain ⟨hk1, hk2⟩ := HLE.out rfl
      have hAO := HAO.out t k rfl
      rw [List.drop_drop] at hAO
      have HPU := Lib.hid fun A4 c4 w4 ho4 hg4 hb4 => HI.out.push (r := ⟨A2, n2, c2, t⟩) (w2 := w2) (w3 := w4) (A3 := A4) (c3 := c4) hb2 ho2 ho4 hg4 hb4
      have HOW2 : Hid (w2.ownsRow w.heap.size 26 1 (.slice Ao no co) no (M.map RowB.v)) := Lib.hid (by rw [HNO.out]; exact own_via HI.out.own hb2)
      have hsz3 : w.heap.size ≤ w2.heap.size := Nat.le_trans hsz hb2.size
      have HJ2 : Hid ((M ++ [(⟨A2, n2, c2, t⟩ : RowB)]).map (·.bs) ++ (Frm.all ((L.map (·.bs)).drop (p + k))).1 = J1 ∧ p + k + (Frm.all ((L.map (·.bs)).drop (p + k))).2 = J2) := Lib.hid (by
        have := HJ.out
        rw [hAO] at this
        refine ⟨?_, by have := this.2; simp only at this; omega⟩
        rw [← this.1]
        simp)
      have HNO2 : Hid (no + 1 = (M ++ [(⟨A2, n2, c2, t⟩ : RowB)]).length) := Lib.hid (by rw [List.length_append, ← HNO.out]; rfl)
      have hw1 : IntKind.i64.wrap ((p : Int) + (k : Int)) = (p : Int) + (k : Int) := by rw [IntKind.wrap_i64]; omega
      clear hl2 ho2 hb2 HJN HLE HAO HAN hAO HJ
      rw [← HNO.out] at HPU
      go_wp2_with (at_builtin; go_loud (refine appR _ rfl (.tmp 21) (.tmp 23) rfl w.heap.size Ao no co (M.map RowB.v) rfl (HOW2.out.alloc _) _ (some ⟨w2.heap.size, 0, none⟩) 1 1 [.slice A2 n2 c2] rfl rfl (Rd.new w2 _ _ _ rfl) (one_rows (L := [⟨A2, n2, c2, []⟩])) (by omega) (by simp; omega) ?_; intro A4 c4 w4 ho4 hg4 hb4; have HI4 := Lib.hid (HPU.out A4 c4 w4 ho4 hg4 hb4); clear ho4 hg4 hb4))
      go_roundw
      case rel => exact ⟨p + k, M ++ [⟨A2, n2, c2, t⟩], A4, no + 1, c4, by go_num, by omega, rfl, by omega, HNO2, HI4, HJ2⟩
      case measure => simp [intOf]; omega
    · have hne : ((er : Int) != 0) = true := by simp; omega
      have hAN := HAN.out he
      have HB2 := Lib.hid (HI.out.via hb2)
      have hJ := HJ.out
      rw [hAN] at hJ
      obtain ⟨rfl, rfl⟩ := hJ
      clear he hl2 ho2 hb2 HJN HLE HAO HAN hAN HJ
      go_wp2
      first | go_ret2 | go_ret
      refine ⟨Ao, no, co, rfl, M, rfl, HNO.out.symm, ?_, HB2.out.rows, HB2.out.below⟩
      rw [HNO.out]
      exact HB2.out.own
end Cib
