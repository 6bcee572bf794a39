/- Order: Prefix. -/
import Derived.Test.YtijinfmokbaahaaOrdM
set_option linter.unusedVariables false
set_option linter.unusedSimpArgs false
set_option maxRecDepth 20000
namespace Ord
open Go
/-- The text that follows all that begin so. -/
def upL : List UInt8 → List UInt8
  | [] => []
  | a :: x => if upL x ≠ [] then a :: upL x else if a = 255 then [] else [a + 1]
theorem upL_none : ∀ (p : List UInt8), (∀ b ∈ p, b = 255) → upL p = []
  | [], _ => rfl
  | a :: x, h => by
    have h1 := upL_none x fun b hb => h b (List.mem_cons_of_mem _ hb)
    unfold upL
    rw [h1, if_neg (by simp), if_pos (h a (by simp))]
theorem upL_at : ∀ (p : List UInt8) (n : Nat) (hn : n < p.length), (∀ j (hj : j < p.length), n < j → p[j] = 255) → p[n] ≠ 255 → upL p = p.take n ++ [p[n] + 1]
  | a :: x, 0, hn, h, h0 => by
    have h1 := upL_none x fun b hb => by
      obtain ⟨j, hj, rfl⟩ := List.mem_iff_getElem.1 hb
      exact h (j + 1) (by simpa using hj) (by omega)
    unfold upL
    rw [h1, if_neg (by simp), if_neg (by simpa using h0)]
    rfl
  | a :: x, n + 1, hn, h, h0 => by
    have h1 := upL_at x n (by simpa using hn) (fun j hj hlt => h (j + 1) (by simpa using hj) (by omega)) (by simpa using h0)
    unfold upL
    rw [h1, if_pos (by simp)]
    rfl
theorem upL_cons (a : UInt8) (x : List UInt8) : upL (a :: x) = if upL x ≠ [] then a :: upL x else if a = 255 then [] else [a + 1] := rfl
/-- What stands between p and what follows all that begin so: what begins so. -/
theorem between : ∀ (p k : List UInt8), (!Op.bytesLess k p && ((upL p).isEmpty || Op.bytesLess k (upL p))) = (p.isPrefixOf k)
  | [], k => by
    cases k <;> simp [upL, Op.bytesLess]
  | a :: x, [] => by simp [Op.bytesLess]
  | a :: x, b :: y => by
    have ih := between x y
    have e1 : Op.bytesLess (b :: y) (a :: x) = (decide (b < a) || (b == a && Op.bytesLess y x)) := rfl
    rw [e1, List.isPrefixOf, ← ih]
    by_cases hab : a = b
    · subst hab
      rw [upL_cons]
      by_cases hx : upL x = []
      · rw [hx, if_neg (by simp)]
        by_cases ha : a = 255
        · rw [if_pos ha]
          simp
        · rw [if_neg ha]
          have : a < a + 1 := by
            rw [UInt8.lt_iff_toNat_lt, UInt8.toNat_add]
            have h1 : a.toNat ≠ 255 := fun e => ha (UInt8.toNat_inj.1 e)
            have h2 := a.toNat_lt
            simp
            omega
          simp [Op.bytesLess, this]
      · rw [if_pos hx]
        have : (upL x).isEmpty = false := by simpa using hx
        simp [Op.bytesLess, this]
    · have hba : ¬ b = a := fun e => hab e.symm
      rw [upL_cons]
      by_cases hlt : b < a
      · simp [hlt, hab, hba]
      · have hgt : a < b := by
          rw [UInt8.lt_iff_toNat_lt] at hlt ⊢
          have : a.toNat ≠ b.toNat := fun e => hab (UInt8.toNat_inj.1 e)
          omega
        have hnb : ¬ b < a := hlt
        by_cases hx : upL x = []
        · rw [hx, if_neg (by simp)]
          by_cases ha : a = 255
          · exfalso
            subst ha
            rw [UInt8.lt_iff_toNat_lt] at hgt
            have := b.toNat_lt
            simp at hgt
            omega
          · rw [if_neg ha]
            have h3 : ¬ b < a + 1 := by
              rw [UInt8.lt_iff_toNat_lt, UInt8.toNat_add] at *
              have h1 : a.toNat ≠ 255 := fun e => ha (UInt8.toNat_inj.1 e)
              have h2 := a.toNat_lt
              simp
              omega
            simp [Op.bytesLess, hab, hba, h3]
        · rw [if_pos hx]
          have e1 : (b == a) = false := by simpa using hba
          have e2 : (a == b) = false := by simpa using hab
          simp [Op.bytesLess, hab, hba, hnb, e1, e2]
end Ord
namespace Cib
open Go Go.RowKit Go.Proofs
/-- What []byte(s) answers, and that its bytes may be stored into. -/
theorem run_bytesF {P : Program} (w : World) (src dst e : TypeId) (s : ByteArray) (hs : P.underlying src = some .string) (hd : P.underlying dst = some (.slice e)) (he : P.underlying e = some (.int .u8)) :
    ∃ c w', (convert src dst (.string s)).run P w = .ok (.slice (some ⟨w.heap.size, 0, none⟩) s.size c) w' ∧ (∀ j (hj : j < s.data.toList.length), w'.cell? ⟨w.heap.size, j, none⟩ = some (bv s.data.toList[j]) ∧ w'.frozen? ⟨w.heap.size, j, none⟩ = false) ∧ Below w.heap.size w w' := by
  refine ⟨_, _, run_bytes_of_string w src dst e s hs hd he, fun j hj => ⟨?_, ?_⟩, (Below.refl _ _).drew.alloc (Nat.le_refl _) _⟩
  · refine (World.cell?_alloc_mark w.drew _ _ _ j).trans ?_
    simp at hj
    simp [bytesRow, bv, Array.getElem?_append, hj]
  · refine (World.frozen?_alloc_mark w.drew _ _ _ _ j).trans ?_
    simp at hj
    simp [bytesRow]
    omega
set_option maxHeartbeats 2000000 in
theorem ordPrefix (p : ByteArray) (hp : p.size ≤ 1000000) (W : World) : Calls Try.prog 10 #[.string p] W fun e w' => e = .returned (sp (p, ⟨(Ord.upL p.data.toList).toArray⟩)) ∧ Below W.heap.size W w' := by
  go_enter Try.func10, Try.ntmps10
  go_wp2
  go_loopw [3] (fun x3 wx => ∃ n : Nat, x3 = .int .i64 (n : Int) ∧ Hid (n ≤ p.size) ∧ Hid (∀ j (hj : j < p.data.toList.length), n ≤ j → p.data.toList[j] = 255) ∧ wx = W.alloc (.cells #[.string ⟨#[]⟩, .string ⟨#[]⟩] 26)) (fun x3 _ => (intOf x3).toNat)
  · refine ⟨p.size, rfl, Nat.le_refl _, fun j hj hn => ?_, rfl⟩
    simp at hj
    omega
  · obtain ⟨n, rfl, hn, hall, rfl⟩ := hrel
    have h1 := hn.out
    have h63 : p.size ≤ 1000000 := hp
    rcases Nat.eq_zero_or_pos n with rfl | hpos
    · go_wp2
      refine bodyPost_ret (results_cell_row (g := W.heap.size) (t := 26) (cs := #[.string p, .string ⟨#[]⟩]) (fr := (0, 0)) rfl _ _ _ rfl (Blk.new W 26 _) Try.underlying26 rfl spanInfo) rfl ⟨?_, (Below.refl _ _).alloc (Nat.le_refl _) _⟩
      rw [Ord.upL_none _ fun b hb => by
        obtain ⟨j, hj, rfl⟩ := List.mem_iff_getElem.1 hb
        exact hall.out j hj (Nat.zero_le _)]
      rfl
    · have hlt : n - 1 < p.data.toList.length := by simp; omega
      have hd : ((n : Int) - 1).toNat = n - 1 := by omega
      have hlt2 : n - 1 < p.size := by omega
      have HHB : Hid (∃ c w2, (convert 9 45 (.string (p.extract 0 n))).run Try.prog (W.alloc (.cells #[.string ⟨#[]⟩, .string ⟨#[]⟩] 26)) = .ok (.slice (some ⟨W.heap.size + 1, 0, none⟩) n c) w2 ∧
          (∀ j (hj : j < n), w2.cell? ⟨W.heap.size + 1, j, none⟩ = some (bv (p[j]'(by omega))) ∧ w2.frozen? ⟨W.heap.size + 1, j, none⟩ = false) ∧ Below W.heap.size W w2 ∧ Blk w2 W.heap.size 26 #[.string ⟨#[]⟩, .string ⟨#[]⟩]) := by
        obtain ⟨c, w2, h2, h3, h4⟩ := run_bytesF (P := Try.prog) (W.alloc (.cells #[.string ⟨#[]⟩, .string ⟨#[]⟩] 26)) 9 45 5 (p.extract 0 n) Try.underlying9 Try.underlying45 Try.underlying5
        have es : (p.extract 0 n).size = n := by simp; omega
        have eh : (W.alloc (.cells #[.string ⟨#[]⟩, .string ⟨#[]⟩] 26)).heap.size = W.heap.size + 1 := by simp
        rw [es, eh] at h2
        rw [eh] at h3 h4
        refine ⟨c, w2, h2, fun j hj => ?_, ((Below.refl _ _).alloc (Nat.le_refl _) _).trans (h4.mono (Nat.le_succ _)), (Blk.new W _ _).below h4 (Nat.lt_succ_self _)⟩
        have := h3 j (by simp; omega)
        simpa [ByteArray.getElem_eq_getElem_data] using this
      obtain ⟨c, w2, hcv, hcell, hb2, hk2⟩ := HHB.out
      obtain ⟨hc1, hf1⟩ := hcell (n - 1) (by omega)
      have HC := Lib.hid hcell
      have HB := Lib.hid hb2
      have HK := Lib.hid hk2
      clear hcell hb2 hk2 HHB
      unfold bv at hc1
      have hV : (((p[n - 1].toNat : Int) + 1) % 256) = ((p[n - 1] + 1).toNat : Int) := by
        rw [UInt8.toNat_add]
        simp
      have hrd : Rd (w2.setCell ⟨W.heap.size + 1, n - 1, none⟩ (.int .u8 (((p[n - 1].toNat : Int) + 1) % 256))) (W.heap.size + 2) (some ⟨W.heap.size + 1, 0, none⟩) ((p.data.toList.take (n - 1) ++ [p[n - 1] + 1]).map bv) := by
        intro _
        refine ⟨_, rfl, Nat.lt_succ_self _, fun j hj => ?_⟩
        have e0 : (⟨W.heap.size + 1, 0, none⟩ : Addr).add j = ⟨W.heap.size + 1, j, none⟩ := by
          unfold Addr.add
          split <;> simp_all
        rw [e0]
        have hjn : j < n := by simp at hj; omega
        by_cases hjl : j = n - 1
        · subst hjl
          rw [World.cell?_setCell_same w2 _ _ (HC.out _ hjn).1, hV]
          have hl1 : (List.take (n - 1) p.data.toList).length = n - 1 := by simp; omega
          congr 1
          rw [List.getElem_map, List.getElem_append_right (by omega)]
          simp [bv]
        · rw [World.cell?_setCell_other w2 _ _ _ (fun e => hjl (by injection e with _ e2 _; exact e2.symm)), (HC.out _ hjn).1]
          congr 1
          rw [List.getElem_map, List.getElem_append_left (by simp; omega)]
          simp [ByteArray.getElem_eq_getElem_data]
      have hcv2 := run_str (P := Try.prog) 45 9 5 Try.underlying45 Try.underlying5 Try.underlying9 hrd (n := n) (by simp; omega) c
      have HUP : Hid (p[n - 1] ≠ 255 → Ord.upL p.data.toList = p.data.toList.take (n - 1) ++ [p[n - 1] + 1]) := fun h0 => by
        have := Ord.upL_at p.data.toList (n - 1) hlt (fun j hj hj2 => hall.out j hj (by omega)) (by simpa [ByteArray.getElem_eq_getElem_data] using h0)
        simpa [ByteArray.getElem_eq_getElem_data] using this
      obtain ⟨L, hL⟩ : ∃ L, Hid (p.data.toList.take (n - 1) ++ [p[n - 1] + 1] = L) := ⟨_, Lib.hid rfl⟩
      rw [hL.out] at hcv2 HUP
      clear hrd hV
      have d1 : w2.cell? ⟨W.heap.size, 0, none⟩ = some (.string ⟨#[]⟩) := HK.out.cell 0
      have d2 : w2.cell? ⟨W.heap.size, 1, none⟩ = some (.string ⟨#[]⟩) := HK.out.cell 1
      have d3 : w2.frozen? ⟨W.heap.size, 0, none⟩ = false := HK.out.frozen 0
      have d4 : w2.frozen? ⟨W.heap.size, 1, none⟩ = false := HK.out.frozen 1
      go_wp2
      case roundEnd =>
        rename_i h8 h9
        have he : p[n - 1] = 255 := by
          have : p[n - 1].toNat = 255 := by
            have := beq_iff_eq.1 h9
            omega
          exact UInt8.toNat_inj.1 this
        refine ⟨⟨n - 1, by congr 1; omega, by show n - 1 ≤ p.size; omega, fun j hj hj2 => ?_, trivial⟩, ?_⟩
        · by_cases h3 : j = n - 1
          · subst h3
            simpa [ByteArray.getElem_eq_getElem_data] using he
          · exact hall.out j hj (by omega)
        · show ((n : Int) - 1).toNat < (n : Int).toNat
          omega
      rename_i h7 h8 h9
      have h255 : p[n - 1] ≠ 255 := fun e => by
        rw [e] at h8
        simp at h8
      refine bodyPost_ret (results_cell_row (g := W.heap.size) (t := 26) (cs := #[.string p, .string ⟨L.toArray⟩]) (fr := (0, 0)) rfl _ _ _ rfl (((HK.out.far (p := ⟨W.heap.size + 1, n - 1, none⟩) (by simp) _).set 0 _).set 1 _) Try.underlying26 rfl spanInfo) rfl ⟨?_, ?_⟩
      · rw [HUP.out h255]
        rfl
      · exact ((HB.out.setCell (by simp) _).setCell (by simp) _).setCell (by simp) _
end Cib
