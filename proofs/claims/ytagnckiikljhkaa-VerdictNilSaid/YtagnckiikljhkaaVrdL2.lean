/- The law VerdictNil. -/
import Derived.Test.YtagnckiikljhkaaVrdF
set_option linter.unusedVariables false
set_option linter.unusedSimpArgs false
set_option maxRecDepth 40000
namespace Cib
open Go Go.RowKit Go.Proofs
set_option maxHeartbeats 2000000 in
theorem lawNilV (r : ActV) (w : World) (hok : r.ok w w.heap.size) : Calls Try.prog 5 #[.agg #[.int .i64 r.kind, .int .u64 (r.n : Int), r.x.v]] w fun e w' => e = .returned (.bool true) ∧ Below w.heap.size w w' := by
  obtain ⟨kind, nn, ⟨Ax, cx, keys⟩⟩ := r
  unfold KeyR.v
  simp only
  have HJ := Lib.hid (fun W => judges W)
  obtain ⟨m, HM⟩ : ∃ m, Hid (keys.length = m) := ⟨_, rfl⟩
  rw [HM.out]
  have hmm : m ≤ maxLen := by rw [← HM.out]; exact hok.2.len
  unfold maxLen at hmm
  have HOK := Lib.hid hok
  clear hok
  obtain ⟨q, HQ⟩ : ∃ q, Hid (fewB [⟨kind, nn, ⟨Ax, cx, keys⟩⟩] = q) := ⟨_, rfl⟩
  have HF : Hid (∀ (W W' : World) (gg : Nat), W' = W.alloc (.cells #[.int .i64 kind, .int .u64 (nn : Int), .slice Ax m cx] 42) → Below w.heap.size w W → gg = W.heap.size → Calls Try.prog 12 #[.slice (some ⟨gg, 0, none⟩) 1 1] W' fun e w' => e = .returned (.bool q) ∧ w' = W') := by
    intro W W' gg e hb eg
    subst e eg
    rw [← HQ.out]
    have hba := hb.alloc hb.size (.cells #[.int .i64 kind, .int .u64 (nn : Int), .slice Ax m cx] 42)
    refine lawFew (l := [⟨kind, nn, ⟨Ax, cx, keys⟩⟩]) (B := W.heap.size + 1) (Rd.new W _ _ _ ?_) (n := 1) rfl (by decide) ?_ 1
    · simp [actRow, KeyR.v, HM.out]
    · intro x hx
      rw [List.mem_singleton.1 hx]
      exact ⟨HOK.out.1, ⟨(HOK.out.2.below hba).rd.more (by have := hb.size; omega), HOK.out.2.len, HOK.out.2.size⟩⟩
  have hb0 : Below w.heap.size w (w.alloc (.cells #[.int .i64 kind, .int .u64 (nn : Int), .slice Ax m cx] 42)) := (Below.refl _ _).alloc (Nat.le_refl _) _
  have HBX := Lib.hid (Blk.new w 42 #[.int .i64 kind, .int .u64 (nn : Int), .slice Ax m cx])
  have HB0 := Lib.hid hb0
  clear hb0
  go_enter Try.func5, Try.ntmps5
  go_upto_region 1 with fail
  generalize hw1 : w.alloc _ = w1 at *
  obtain ⟨gb, hgb⟩ : ∃ gb, w.heap.size = gb := ⟨_, rfl⟩
  simp only [hgb]
  rw [hgb] at HBX
  clear hw1
  have q0 := HBX.out.cell 0
  have q1 := HBX.out.cell 1
  have q2 := HBX.out.cell 2
  go_wp2_with fail
  refine (HF.out w1 _ _ rfl HB0.out rfl).mono ?_
  rintro e w2 ⟨rfl, hw2⟩
  have hb2 : Below w.heap.size w w2 := by rw [hw2]; exact HB0.out.alloc HB0.out.size _
  have hx2 : Blk w2 gb 42 #[.int .i64 kind, .int .u64 (nn : Int), .slice Ax m cx] := by rw [hw2]; exact HBX.out.alloc _
  clear hw2 q0 q1 q2
  have HB2 := Lib.hid hb2
  have HX2 := Lib.hid hx2
  clear hb2 hx2 HF HBX HB0
  cases q with
  | false =>
    go_wp2_with fail
    refine (HJ.out _).mono ?_
    rintro e w5 ⟨rfl, hb5⟩
    go_wp2
    go_ret
    exact ⟨rfl, HB2.out.via hb5⟩
  | true =>
    go_wp2
    go_loopw [3, 4] (fun p i wr => ∃ (k : Nat) (P : Option Addr), p = .pointer P ∧ i = .int .i64 k ∧ k ≤ 2 ∧ Hid (GoneV wr P) ∧ Hid (Below w.heap.size w wr) ∧ Hid (Blk wr gb 42 #[.int .i64 kind, .int .u64 (nn : Int), .slice Ax m cx])) (fun _ i _ => 2 - (intOf i).toNat)
    case atStart => exact ⟨0, none, rfl, rfl, by decide, .inl rfl, HB2, HX2⟩
    case round =>
      obtain ⟨k, P, rfl, rfl, hk, hG, hb, hx⟩ := hrel
      by_cases hlt : k < 2
      · have q1 := hx.out.cell 1
        have q2 := hx.out.cell 2
        have H1 := Lib.hid (gvAsk hG.out (nn : Int) (.slice Ax m cx))
        have H2 := Lib.hid (gvNote hG.out (nn : Int) (.slice Ax m cx))
        have H3 := Lib.hid (gvForget hG.out (nn : Int))
        have H4 := Lib.hid (gvLen hG.out)
        have H5 := Lib.hid (gvLast hG.out)
        have H6 := Lib.hid (gvCopy hG.out)
        have hz := hb.out.size
        have HG : Hid (GoneV (wr.alloc (.cells #[.slice none 0 0, .map none, .int .u64 0] 49)) (some ⟨wr.heap.size, 0, none⟩)) := .inr ⟨_, rfl, Blk.new _ _ _⟩
        have HBA := Lib.hid (hb.out.alloc hz (.cells #[.slice none 0 0, .map none, .int .u64 0] 49))
        have HXA := Lib.hid (hx.out.alloc (.cells #[.slice none 0 0, .map none, .int .u64 0] 49))
        clear hG
        go_wp2_with (first | (go_at_call 8; refine H1.out.mono ?_; rintro e w5 ⟨rfl, rfl⟩) | (go_at_call 10; refine H2.out.mono ?_; rintro e w5 ⟨rfl, rfl⟩) | (go_at_call 14; refine H3.out.mono ?_; rintro e w5 ⟨rfl, rfl⟩) | (go_at_call 11; refine H4.out.mono ?_; rintro e w5 ⟨rfl, rfl⟩) | (go_at_call 15; refine H5.out.mono ?_; rintro e w5 ⟨rfl, rfl⟩) | (go_at_call 13; refine H6.out.mono ?_; rintro e w5 ⟨rfl, rfl⟩))
        first
          | exact ⟨⟨k + 1, _, rfl, by go_num, by omega, HG, HBA, HXA⟩, by simp [intOf]; omega⟩
          | exact ⟨⟨_, _, ⟨k + 1, _, rfl, rfl, by omega, HG, HBA, HXA⟩, rfl, by go_num⟩, by simp [intOf]; omega⟩
      · clear hG hx
        go_wp2_with fail
        refine (HJ.out _).mono ?_
        rintro e w5 ⟨rfl, hb5⟩
        go_wp2
        go_ret
        exact ⟨rfl, hb.out.via hb5⟩
end Cib
