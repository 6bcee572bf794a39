/- Ask, Note. -/
import Derived.Test.YtagnckiikljhkaaVrdM
import Derived.Deep.RegionHeld
set_option linter.unusedVariables false
set_option linter.unusedSimpArgs false
set_option maxRecDepth 20000
namespace Vrd
theorem note_take (f : Mem) (stamp : Nat) (keys : List ByteArray) {j : Nat} (h : j < keys.length) : note f stamp (keys.take (j + 1)) = note (note f stamp (keys.take j)) stamp [keys[j]] := by
  funext k
  unfold note
  rw [List.take_succ_eq_append_getElem h]
  by_cases h1 : k = keys[j]
  · rw [if_pos (List.mem_append.2 (.inr (List.mem_singleton.2 h1))), if_pos (List.mem_singleton.2 h1)]
  · by_cases h2 : k ∈ keys.take j
    · rw [if_pos (List.mem_append_left _ h2), if_neg (by simpa using h1), if_pos h2]
    · rw [if_neg (fun hm => (List.mem_append.1 hm).elim h2 (fun h => h1 (List.mem_singleton.1 h))), if_neg (by simpa using h1), if_neg h2]
theorem note_none (f : Mem) (stamp : Nat) (keys : List ByteArray) : note f stamp (keys.take 0) = f := by
  funext k
  simp [note]
end Vrd
namespace Cib
open Go Go.RowKit Go.Proofs
variable {w w' wr : World} {b N base g last n c : Nat} {f : Vrd.Mem} {rows : List (Nat × Value)} {A Ak : Option Addr} {keys : List ByteArray}
def sv (s : ByteArray) : Value := .string s
theorem sv_one {l : List ByteArray} : ∀ u ∈ l.map sv, u.oneCell' = true := by
  intro u hu
  obtain ⟨r, _, rfl⟩ := List.mem_map.1 hu
  rfl
/-- Go's order of texts. -/
def ltS (a b : ByteArray) : Bool := Op.bytesLess a.toList b.toList
/-- Keys that are read, in a block below base or in one of texts. -/
structure KeyS (w : World) (base : Nat) (Ak : Option Addr) (keys : List ByteArray) : Prop where
  rd : Rd w w.heap.size Ak (keys.map sv)
  at_ : keys ≠ [] → ∀ ad, Ak = some ad → ad.block < base ∨ Ty w ad.block 9
theorem KeyS.chg {ts : List TypeId} (h : KeyS w base Ak keys) (hb : Below base w w') (hs : Same ts w w') (ht : 9 ∉ ts) : KeyS w' base Ak keys := by
  refine ⟨fun hn => ?_, fun hn ad e => (h.at_ hn ad e).imp id fun h => h.same hs ht⟩
  obtain ⟨ad, rfl, hl, hc⟩ := h.rd hn
  refine ⟨ad, rfl, Nat.lt_of_lt_of_le hl hb.size, fun j hj => ?_⟩
  rcases h.at_ (by intro e; subst e; simp at hn) ad rfl with h1 | h1
  · exact (hb.cell (by rw [addr_add_block]; exact h1)).trans (hc j hj)
  · have e : w'.heap[(ad.add j).block]? = w.heap[(ad.add j).block]? := by
      have := hs _ _ h1 ht
      rwa [addr_add_block]
    exact (World.cell?_of_block e).trans (hc j hj)
theorem KeyS.below (h : KeyS w base Ak keys) (hb : Below w.heap.size w w') : KeyS w' base Ak keys := by
  refine ⟨fun hn => ?_, fun hn ad e => (h.at_ hn ad e).imp id fun h => h.below hb⟩
  obtain ⟨ad, rfl, hl, hc⟩ := h.rd hn
  exact ⟨ad, rfl, Nat.lt_of_lt_of_le hl hb.size, fun j hj => (hb.cell (by rw [addr_add_block]; exact hl)).trans (hc j hj)⟩
theorem KeyS.cell (h : KeyS w base Ak keys) {j : Nat} (hj : j < keys.length) : ∃ ad, Ak = some ad ∧ w.cell? (ad.add j) = some (.string keys[j]) := by
  obtain ⟨ad, e, _, hc⟩ := h.rd (by intro e; simp at e; subst e; simp at hj)
  have := hc j (by simpa using hj)
  rw [List.getElem_map] at this
  exact ⟨ad, e, this⟩
/-- What Ask holds on its way. -/
def AskI (start : Nat) (f : Vrd.Mem) (l : List ByteArray) (R : ByteArray × Nat × Bool) (x y z : Value) : Prop := ∃ r : ByteArray × Nat × Bool, x = .string r.1 ∧ y = .int .u64 (r.2.1 : Int) ∧ z = .bool r.2.2 ∧ Vrd.askG ltS f start l r = R
set_option maxHeartbeats 1000000 in
theorem vdAsk (h : Vd w base g rows last N f A n c b) (start : Nat) (hk : KeyS w base Ak keys) (hs : ∀ k ∈ keys, k.size ≤ maxLen) {nk : Nat} (hn : keys.length = nk) (hnm : nk ≤ maxLen) (ck : Nat) :
    Calls Try.prog 8 #[.pointer (some ⟨g, 0, none⟩), .int .u64 (start : Int), .slice Ak nk ck] w fun e w' =>
      e = .returned (.tuple #[.string (Vrd.ask ltS f start keys).1, .int .u64 ((Vrd.ask ltS f start keys).2.1 : Int), .bool (Vrd.ask ltS f start keys).2.2]) ∧ w' = w := by
  unfold maxLen at hnm
  have h1 := h.c1
  have HNO := Lib.hid (vdNone g b w h.c1)
  have HM := Lib.hid h.map
  have HK := Lib.hid hk
  have HS := Lib.hid hs
  have HN := Lib.hid hn
  obtain ⟨R, HR⟩ : ∃ R, Hid (Vrd.ask ltS f start keys = R) := ⟨_, rfl⟩
  rw [HR.out]
  clear h hk hs hn
  go_enter Try.func8, Try.ntmps8
  go_wp2_with (go_at_call 16; refine HNO.out.mono ?_; rintro e w' ⟨rfl, rfl⟩)
  go_loopw [9, 10, 11, 20] (fun x y z i wr => ∃ j : Nat, i = .int .i64 j ∧ j ≤ nk ∧ AskI start f (keys.drop j) R x y z ∧ wr = w') (fun _ _ _ i _ => nk - (intOf i).toNat)
  case atStart => exact ⟨0, rfl, Nat.zero_le _, ⟨⟨ByteArray.mk #[], 0, false⟩, rfl, rfl, rfl, HR.out⟩, rfl⟩
  case round =>
    obtain ⟨j, rfl, hj, ⟨⟨best, stamp, found⟩, rfl, rfl, rfl, hrun⟩, rfl⟩ := hrel
    by_cases hlt : j < nk
    · have hjk : j < keys.length := by rw [HN.out]; exact hlt
      obtain ⟨ad, rfl, hc⟩ := HK.out.cell hjk
      have hsz := HS.out _ (List.getElem_mem hjk)
      rw [Vrd.askG_step hjk] at hrun
      generalize keys[j] = s at *
      have HSZ := Lib.hid hsz
      clear hsz hjk
      cases hf : f s with
      | none =>
        have hl : Vrd.lateK f start s = false := by unfold Vrd.lateK; rw [hf]
        rw [hl] at hrun
        simp only [Bool.false_and, Bool.false_eq_true, if_false] at hrun
        have HRUN := Lib.hid hrun
        clear hrun hl
        have HF := Lib.hid hf
        clear hf
        go_wp2_with (at_lookup; refine wpList_lookV rfl (.tmp 28) (.tmp 29) rfl rfl HM.out s rfl HSZ.out ?_; rw [HF.out]; simp only [Option.getD_none, Option.isSome_none])
        exact ⟨⟨j + 1, by go_num, hlt, ⟨(best, stamp, found), rfl, rfl, rfl, HRUN.out⟩, by first | rfl | trivial⟩, by simp [intOf]; omega⟩
      | some v =>
        have HF := Lib.hid hf
        by_cases hv : start < v
        · have hl : Vrd.lateK f start s = true := by unfold Vrd.lateK; rw [hf]; simpa using hv
          rw [hl, hf] at hrun
          simp only [Bool.true_and, Option.getD_some] at hrun
          have hd1 : decide ((v : Int) > (start : Int)) = true := by simp; omega
          have hd2 : decide ((start : Int) < (v : Int)) = true := by simp; omega
          clear hf hl
          cases found with
          | false =>
            simp only [Bool.not_false, Bool.true_or, if_true] at hrun
            have HRUN := Lib.hid hrun
            clear hrun
            go_wp2_with (at_lookup; refine wpList_lookV rfl (.tmp 28) (.tmp 29) rfl rfl HM.out s rfl HSZ.out ?_; rw [HF.out]; simp only [Option.getD_some, Option.isSome_some])
            exact ⟨⟨j + 1, by go_num, hlt, ⟨(s, v, true), rfl, rfl, rfl, HRUN.out⟩, by first | rfl | trivial⟩, by simp [intOf]; omega⟩
          | true =>
            simp only [Bool.not_true, Bool.false_or] at hrun
            cases hls : ltS s best with
            | true =>
              rw [hls] at hrun
              simp only [if_true] at hrun
              have HRUN := Lib.hid hrun
              unfold ltS at hls
              clear hrun
              go_wp2_with (at_lookup; refine wpList_lookV rfl (.tmp 28) (.tmp 29) rfl rfl HM.out s rfl HSZ.out ?_; rw [HF.out]; simp only [Option.getD_some, Option.isSome_some])
              exact ⟨⟨j + 1, by go_num, hlt, ⟨(s, v, true), rfl, rfl, rfl, HRUN.out⟩, by first | rfl | trivial⟩, by simp [intOf]; omega⟩
            | false =>
              rw [hls] at hrun
              simp only [Bool.false_eq_true, if_false] at hrun
              have HRUN := Lib.hid hrun
              unfold ltS at hls
              clear hrun
              go_wp2_with (at_lookup; refine wpList_lookV rfl (.tmp 28) (.tmp 29) rfl rfl HM.out s rfl HSZ.out ?_; rw [HF.out]; simp only [Option.getD_some, Option.isSome_some])
              exact ⟨⟨j + 1, by go_num, hlt, ⟨(best, stamp, true), rfl, rfl, rfl, HRUN.out⟩, by first | rfl | trivial⟩, by simp [intOf]; omega⟩
        · have hl : Vrd.lateK f start s = false := by unfold Vrd.lateK; rw [hf]; simpa using hv
          rw [hl] at hrun
          simp only [Bool.false_and, Bool.false_eq_true, if_false] at hrun
          have hd1 : decide ((v : Int) > (start : Int)) = false := by simp; omega
          have hd2 : decide ((start : Int) < (v : Int)) = false := by simp; omega
          have HRUN := Lib.hid hrun
          clear hrun hf hl
          go_wp2_with (at_lookup; refine wpList_lookV rfl (.tmp 28) (.tmp 29) rfl rfl HM.out s rfl HSZ.out ?_; rw [HF.out]; simp only [Option.getD_some, Option.isSome_some])
          exact ⟨⟨j + 1, by go_num, hlt, ⟨(best, stamp, found), rfl, rfl, rfl, HRUN.out⟩, by first | rfl | trivial⟩, by simp [intOf]; omega⟩
    · have hr : (best, stamp, found) = R := by rw [List.drop_eq_nil_of_le (by rw [HN.out]; omega)] at hrun; exact hrun
      subst hr
      clear hrun
      go_wp2
      first | go_ret3 | go_ret
      exact ⟨rfl, rfl⟩
end Cib
