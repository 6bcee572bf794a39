/- Order: Meet, Prefix, Begins; the law's few and short. -/
import Derived.Test.YtijinfmokbaahaaOrdW
import Derived.Test.YtijinfmokbaahaaRowsK
import Derived.Deep.RegionHeld
set_option linter.unusedVariables false
set_option linter.unusedSimpArgs false
set_option maxRecDepth 20000
namespace Cib
open Go Go.RowKit Go.Proofs
theorem spanInfo : (Try.prog.info? 26).map (·.size) = some 2 := by kernel_rfl
/-- Two results, the first a struct in memory. -/
theorem results_row2 {P : Program} {fn : Func} {p t : Tmp} {ty : TypeId} (h : fn.results = #[.cell p ty, .tmp t]) (tmps : Array Value) (w : World) (g : Nat) (te : TypeId) (cs : Array Value) (fr : Nat × Nat) (d : TypeDesc)
    (hp : tmps.getD p undef = .pointer (some ⟨g, 0, none⟩)) (hg : w.heap[g]? = some (.cells cs te fr))
    (hu : P.underlying ty = some d) (hd : (match d with | .struct _ | .array _ _ => true | _ => false) = true) (hi : (P.info? ty).map (·.size) = some cs.size) :
    (results fn tmps).run P w = .ok (.tuple #[.agg cs, tmps.getD t undef]) w := by
  have hp' : tmps[p]?.getD undef = .pointer (some ⟨g, 0, none⟩) := by simpa using hp
  simp [results, h, hp', asAddr, run_loadVar_row w g te ty cs fr d hg hu hd hi]
set_option maxHeartbeats 1000000 in
theorem ordBegins (k p : ByteArray) (hp : p.size ≤ 1000000) (W : World) : Calls Try.prog 12 #[.string k, .string p] W fun e w' => e = .returned (.bool (decide (p.size ≤ k.size) && (k.extract 0 p.size).toList == p.toList)) ∧ w' = W := by
  go_enter Try.func12, Try.ntmps12
  go_wp2
  all_goals (go_ret; refine ⟨?_, rfl⟩; simp [*])
  all_goals first | omega | (intro h; omega) | skip
set_option maxHeartbeats 1000000 in
theorem ordMeet (f t f' t' : ByteArray) (W : World) : Calls Try.prog 19 #[.agg #[.string f, .string t], .agg #[.string f', .string t']] W fun e w' =>
    e = .returned (.tuple (if Ord.emp (Ord.top f f') (Ord.low t t') then #[.agg #[.string ⟨#[]⟩, .string ⟨#[]⟩], .bool false] else #[.agg #[.string (Ord.top f f'), .string (Ord.low t t')], .bool true])) ∧ Below W.heap.size W w' := by
  have hc := fun W => ordLow t t' W
  have he : ∀ W, _ := fun W => ordEmptyB (Ord.top f f', Ord.low t t') W
  have hm := fun W => run_maxS Try.prog 9 9 9 f f' W
  dsimp only [sp] at he
  generalize Ord.emp (Ord.top f f') (Ord.low t t') = r at he ⊢
  generalize Ord.top f f' = a at he hm ⊢
  generalize Ord.low t t' = b at hc he ⊢
  go_enter Try.func19, Try.ntmps19
  go_wp2_with first | (go_at_call 29; refine (hc _).mono ?_; rintro e w' ⟨rfl, rfl⟩) | (go_at_call 13; refine (he _).mono ?_; rintro e w' ⟨rfl, q, os, rfl⟩)
  have h0 : Hid (∃ w1 : World, ((W.alloc (.cells #[.string f, .string t] 26)).alloc (.cells #[.string f', .string t'] 26)).alloc (.cells #[.string ⟨#[]⟩, .string ⟨#[]⟩] 26) = w1 ∧ Below W.heap.size W w1 ∧ w1.heap.size = W.heap.size + 1 + 1 + 1 ∧
      w1.cell? ⟨W.heap.size, 0, none⟩ = some (.string f) ∧ w1.cell? ⟨W.heap.size, 1, none⟩ = some (.string t) ∧ w1.cell? ⟨W.heap.size + 1, 0, none⟩ = some (.string f') ∧ w1.cell? ⟨W.heap.size + 1, 1, none⟩ = some (.string t') ∧
      Blk w1 (W.heap.size + 1 + 1) 26 #[.string ⟨#[]⟩, .string ⟨#[]⟩]) := by
    refine ⟨_, rfl, (((Below.refl _ _).alloc (Nat.le_refl _) _).alloc (by simp) _).alloc (by simp; omega) _, by simp, ?_, ?_, ?_, ?_, ?_⟩
    · exact (((Blk.new W _ _).alloc _).alloc _).cell 0
    · exact (((Blk.new W _ _).alloc _).alloc _).cell 1
    · have := ((Blk.new (W.alloc (.cells #[.string f, .string t] 26)) 26 #[.string f', .string t']).alloc (.cells #[.string ⟨#[]⟩, .string ⟨#[]⟩] 26)).cell 0
      simpa using this
    · have := ((Blk.new (W.alloc (.cells #[.string f, .string t] 26)) 26 #[.string f', .string t']).alloc (.cells #[.string ⟨#[]⟩, .string ⟨#[]⟩] 26)).cell 1
      simpa using this
    · have := Blk.new ((W.alloc (.cells #[.string f, .string t] 26)).alloc (.cells #[.string f', .string t'] 26)) 26 #[.string ⟨#[]⟩, .string ⟨#[]⟩]
      simpa using this
  obtain ⟨w1, hw1, hb1, hs1, c1, c2, c3, c4, hk⟩ := h0
  rw [hw1]
  clear hw1
  have HK : Hid (Blk w1 (W.heap.size + 1 + 1) 26 #[.string ⟨#[]⟩, .string ⟨#[]⟩]) := hk
  clear hk
  have HB := Lib.hid hb1
  have HS := Lib.hid hs1
  have HC1 := Lib.hid c1
  have HC2 := Lib.hid c2
  have HC3 := Lib.hid c3
  have HC4 := Lib.hid c4
  clear hb1 hs1 c1 c2 c3 c4
  refine wp_region_held_drew (S := (fun wQq => Below (World.heap (w1.drew)).size (w1.drew) wQq)) (by kernel_rfl) (by exact Below.refl _ _) (fun _ => ?_)
  refine wpAnyH_take (i := 0) (v := ?_) rfl (by kernel_rfl) (by kernel_rfl) (by kernel_rfl) (fun _ _ _ h => h) (Or.inl ⟨by rfl, ?_⟩) (Below.refl _ _) ?_
  rotate_left
  · intro wS hSw
    go_simp
    try with_reducible rfl
  try simp only [List.getElem_toArray, List.getElem_cons_zero, List.getElem_cons_succ, Act.put, List.setIfInBounds_toArray, List.set_cons_zero, List.set_cons_succ]
  refine wpAnyH_take (i := 2) (v := ?_) rfl (by kernel_rfl) (by kernel_rfl) (by kernel_rfl) (fun _ _ _ h => h) (Or.inl ⟨by rfl, ?_⟩) (Below.refl _ _) ?_
  rotate_left
  · intro wS hSw
    go_simp
    try with_reducible rfl
  try simp only [List.getElem_toArray, List.getElem_cons_zero, List.getElem_cons_succ, Act.put, List.setIfInBounds_toArray, List.set_cons_zero, List.set_cons_succ]
  refine wpAnyH_take (i := 5) (v := ?_) rfl (by kernel_rfl) (by kernel_rfl) (by kernel_rfl) (fun _ _ _ h => h) (Or.inl ⟨by rfl, ?_⟩) (Below.refl _ _) ?_
  rotate_left
  · intro wS hSw
    go_simp
    try with_reducible rfl
  try simp only [List.getElem_toArray, List.getElem_cons_zero, List.getElem_cons_succ, Act.put, List.setIfInBounds_toArray, List.set_cons_zero, List.set_cons_succ]
  refine wpAnyH_take (i := 7) (v := ?_) rfl (by kernel_rfl) (by kernel_rfl) (by kernel_rfl) (fun _ _ _ h => h) (Or.inl ⟨by rfl, ?_⟩) (Below.refl _ _) ?_
  rotate_left
  · intro wS hSw
    go_simp
    try with_reducible rfl
  try simp only [List.getElem_toArray, List.getElem_cons_zero, List.getElem_cons_succ, Act.put, List.setIfInBounds_toArray, List.set_cons_zero, List.set_cons_succ]
  refine wpAnyH_take (i := 1) (v := ?_) rfl (by kernel_rfl) (by kernel_rfl) (by kernel_rfl) (fun _ _ _ h => h) (Or.inl ⟨by rfl, ?_⟩) (Below.refl _ _) ?_
  rotate_left
  · intro wS hSw
    have hcv := ((hSw.cell (p := ⟨W.heap.size, 0, none⟩) (by have := HS.out; show W.heap.size < w1.heap.size; omega)).trans HC1.out)
    go_simp
    try with_reducible rfl
  try simp only [List.getElem_toArray, List.getElem_cons_zero, List.getElem_cons_succ, Act.put, List.setIfInBounds_toArray, List.set_cons_zero, List.set_cons_succ]
  refine wpAnyH_take (i := 3) (v := ?_) rfl (by kernel_rfl) (by kernel_rfl) (by kernel_rfl) (fun _ _ _ h => h) (Or.inl ⟨by rfl, ?_⟩) (Below.refl _ _) ?_
  rotate_left
  · intro wS hSw
    have hcv := ((hSw.cell (p := ⟨W.heap.size + 1, 0, none⟩) (by have := HS.out; show W.heap.size + 1 < w1.heap.size; omega)).trans HC3.out)
    go_simp
    try with_reducible rfl
  try simp only [List.getElem_toArray, List.getElem_cons_zero, List.getElem_cons_succ, Act.put, List.setIfInBounds_toArray, List.set_cons_zero, List.set_cons_succ]
  refine wpAnyH_take (i := 4) (v := ?_) rfl (by kernel_rfl) (by kernel_rfl) (by kernel_rfl) (fun _ _ _ h => h) (Or.inl ⟨by rfl, ?_⟩) (Below.refl _ _) ?_
  rotate_left
  · intro wS hSw
    go_simp
    try with_reducible rfl
  try simp only [List.getElem_toArray, List.getElem_cons_zero, List.getElem_cons_succ, Act.put, List.setIfInBounds_toArray, List.set_cons_zero, List.set_cons_succ]
  refine wpAnyH_take (i := 6) (v := ?_) rfl (by kernel_rfl) (by kernel_rfl) (by kernel_rfl) (fun _ _ _ h => h) (Or.inl ⟨by rfl, ?_⟩) (Below.refl _ _) ?_
  rotate_left
  · intro wS hSw
    have hcv := ((hSw.cell (p := ⟨W.heap.size, 1, none⟩) (by have := HS.out; show W.heap.size < w1.heap.size; omega)).trans HC2.out)
    go_simp
    try with_reducible rfl
  try simp only [List.getElem_toArray, List.getElem_cons_zero, List.getElem_cons_succ, Act.put, List.setIfInBounds_toArray, List.set_cons_zero, List.set_cons_succ]
  refine wpAnyH_take (i := 8) (v := ?_) rfl (by kernel_rfl) (by kernel_rfl) (by kernel_rfl) (fun _ _ _ h => h) (Or.inl ⟨by rfl, ?_⟩) (Below.refl _ _) ?_
  rotate_left
  · intro wS hSw
    have hcv := ((hSw.cell (p := ⟨W.heap.size + 1, 1, none⟩) (by have := HS.out; show W.heap.size + 1 < w1.heap.size; omega)).trans HC4.out)
    go_simp
    try with_reducible rfl
  try simp only [List.getElem_toArray, List.getElem_cons_zero, List.getElem_cons_succ, Act.put, List.setIfInBounds_toArray, List.set_cons_zero, List.set_cons_succ]
  refine wpAnyH_ready (rs := [9, 11]) (by kernel_rfl) (by simp) ?_
  refine AllReadyH.cons rfl (fun K hK => ?_) (AllReadyH.cons rfl (fun K hK => ?_) AllReadyH.nil)
  · go_simp
    refine (hc _).mono ?_
    rintro e w' ⟨rfl, rfl⟩
    refine hK.out _ _ (by first | exact Below.refl _ _ | exact (Below.refl _ _).alloc (Nat.le_refl _) _) (fun _ => ?_)
    clear hK K
    try simp only [List.getElem_toArray, List.getElem_cons_zero, List.getElem_cons_succ, Act.put, List.setIfInBounds_toArray, List.set_cons_zero, List.set_cons_succ]
    refine wpAnyH_take (i := 10) (v := ?_) rfl (by kernel_rfl) (by kernel_rfl) (by kernel_rfl) (fun _ _ _ h => h) (Or.inl ⟨by rfl, ?_⟩) (by first | exact Below.refl _ _ | exact (Below.refl _ _).alloc (Nat.le_refl _) _) ?_
    rotate_left
    · intro wS hSw
      go_simp
      try with_reducible rfl
    try simp only [List.getElem_toArray, List.getElem_cons_zero, List.getElem_cons_succ, Act.put, List.setIfInBounds_toArray, List.set_cons_zero, List.set_cons_succ]
    refine wpAnyH_ready (rs := [11]) (by kernel_rfl) (by simp) ?_
    refine AllReadyH.cons rfl (fun K hK => ?_) AllReadyH.nil
    go_simp
    refine hK.out _ _ (by exact (Below.refl _ _).alloc (Nat.le_refl _) _) (fun _ => ?_)
    clear hK K
    try simp only [List.getElem_toArray, List.getElem_cons_zero, List.getElem_cons_succ, Act.put, List.setIfInBounds_toArray, List.set_cons_zero, List.set_cons_succ]
    refine wpAnyH_ready (rs := [12]) (by kernel_rfl) (by simp) ?_
    refine AllReadyH.cons rfl (fun K hK => ?_) AllReadyH.nil
    go_simp
    refine hK.out _ _ (by exact below_drewN (a := w1.drew) (w := w1.drew.alloc (.cells #[.string a, .string b] 26)) ((Below.refl w1.heap.size w1.drew).alloc (Nat.le_refl _) _) 0) (fun _ => ?_)
    clear hK K
    try simp only [List.getElem_toArray, List.getElem_cons_zero, List.getElem_cons_succ, Act.put, List.setIfInBounds_toArray, List.set_cons_zero, List.set_cons_succ]
    refine wpAnyH_done (by kernel_rfl) ?_ _
    have hb2 : Below W.heap.size W (w1.alloc (.cells #[.string a, .string b] 26)).drew := below_drewN (HB.out.alloc HB.out.size _) 1
    have hk2 : Blk (w1.alloc (.cells #[.string a, .string b] 26)).drew w1.heap.size 26 #[.string a, .string b] := Blk.new w1 _ _
    have hk3 : Blk (w1.alloc (.cells #[.string a, .string b] 26)).drew (W.heap.size + 1 + 1) 26 #[.string ⟨#[]⟩, .string ⟨#[]⟩] := HK.out.alloc _
    have hne : W.heap.size + 1 + 1 ≠ w1.heap.size := by have := HS.out; omega
    generalize (w1.alloc (.cells #[.string a, .string b] 26)).drew = w2 at *
    have d1 : w2.cell? ⟨w1.heap.size, 0, none⟩ = some (.string a) := hk2.cell 0
    have d2 : w2.cell? ⟨w1.heap.size, 1, none⟩ = some (.string b) := hk2.cell 1
    have d3 : w2.cell? ⟨W.heap.size + 1 + 1, 0, none⟩ = some (.string ⟨#[]⟩) := hk3.cell 0
    have d4 : w2.cell? ⟨W.heap.size + 1 + 1, 1, none⟩ = some (.string ⟨#[]⟩) := hk3.cell 1
    have d5 : w2.frozen? ⟨W.heap.size + 1 + 1, 0, none⟩ = false := hk3.frozen 0
    have d6 : w2.frozen? ⟨W.heap.size + 1 + 1, 1, none⟩ = false := hk3.frozen 1
    have HB2 := Lib.hid hb2
    have HK2 := Lib.hid hk2
    have HK3 := Lib.hid hk3
    have HNE := Lib.hid hne
    clear hb2 hk2 hk3 hne hm hc d1 d2 d3 d4 d5 d6
    have d1 : w2.cell? ⟨w1.heap.size, 0, none⟩ = some (.string a) := HK2.out.cell 0
    have d2 : w2.cell? ⟨w1.heap.size, 1, none⟩ = some (.string b) := HK2.out.cell 1
    cases r
    · go_wp2_with (go_at_call 13; refine (he _).mono ?_; rintro e w3 ⟨rfl, hb3⟩; have k2 := HK2.out.below hb3 HK2.out.lt; have k3 := HK3.out.below hb3 HK3.out.lt; have HB3 := Lib.hid (HB2.out.via hb3); have HK4 := Lib.hid k3; have e1 : w3.cell? ⟨w1.heap.size, 0, none⟩ = some (.string a) := k2.cell 0; have e2 : w3.cell? ⟨w1.heap.size, 1, none⟩ = some (.string b) := k2.cell 1; have e3 : w3.cell? ⟨W.heap.size + 1 + 1, 0, none⟩ = some (.string ⟨#[]⟩) := k3.cell 0; have e4 : w3.cell? ⟨W.heap.size + 1 + 1, 1, none⟩ = some (.string ⟨#[]⟩) := k3.cell 1; have e5 : w3.frozen? ⟨W.heap.size + 1 + 1, 0, none⟩ = false := k3.frozen 0; have e6 : w3.frozen? ⟨W.heap.size + 1 + 1, 1, none⟩ = false := k3.frozen 1; clear k2 k3 hb3 d1 d2)
      all_goals
    {
      refine bodyPost_ret (results_row2 (g := W.heap.size + 1 + 1) (te := 26) (cs := #[.string a, .string b]) (fr := (0, 0)) rfl _ _ _ rfl ((HK4.out.set 0 _).set 1 _) Try.underlying26 rfl spanInfo) rfl ⟨rfl, ?_⟩
      exact (HB3.out.setCell (by simp; omega) _).setCell (by simp; omega) _ }
    · go_wp2_with (go_at_call 13; refine (he _).mono ?_; rintro e w3 ⟨rfl, hb3⟩; have k2 := HK2.out.below hb3 HK2.out.lt; have k3 := HK3.out.below hb3 HK3.out.lt; have HB3 := Lib.hid (HB2.out.via hb3); have HK4 := Lib.hid k3; have e1 : w3.cell? ⟨w1.heap.size, 0, none⟩ = some (.string a) := k2.cell 0; have e2 : w3.cell? ⟨w1.heap.size, 1, none⟩ = some (.string b) := k2.cell 1; have e3 : w3.cell? ⟨W.heap.size + 1 + 1, 0, none⟩ = some (.string ⟨#[]⟩) := k3.cell 0; have e4 : w3.cell? ⟨W.heap.size + 1 + 1, 1, none⟩ = some (.string ⟨#[]⟩) := k3.cell 1; have e5 : w3.frozen? ⟨W.heap.size + 1 + 1, 0, none⟩ = false := k3.frozen 0; have e6 : w3.frozen? ⟨W.heap.size + 1 + 1, 1, none⟩ = false := k3.frozen 1; clear k2 k3 hb3 d1 d2)
      all_goals
    {
      refine bodyPost_ret (results_row2 (g := W.heap.size + 1 + 1) (te := 26) (cs := #[.string ⟨#[]⟩, .string ⟨#[]⟩]) (fr := (0, 0)) rfl _ _ _ rfl ((HK4.out.set 0 _).set 1 _) Try.underlying26 rfl spanInfo) rfl ⟨rfl, ?_⟩
      exact (HB3.out.setCell (by simp; omega) _).setCell (by simp; omega) _ }
  · go_simp
    refine hK.out _ _ (by exact (Below.refl _ _).alloc (Nat.le_refl _) _) (fun _ => ?_)
    clear hK K
    try simp only [List.getElem_toArray, List.getElem_cons_zero, List.getElem_cons_succ, Act.put, List.setIfInBounds_toArray, List.set_cons_zero, List.set_cons_succ]
    refine wpAnyH_ready (rs := [9]) (by kernel_rfl) (by simp) ?_
    refine AllReadyH.cons rfl (fun K hK => ?_) AllReadyH.nil
    go_simp
    refine (hc _).mono ?_
    rintro e w' ⟨rfl, rfl⟩
    refine hK.out _ _ (by first | exact Below.refl _ _ | exact (Below.refl _ _).alloc (Nat.le_refl _) _) (fun _ => ?_)
    clear hK K
    try simp only [List.getElem_toArray, List.getElem_cons_zero, List.getElem_cons_succ, Act.put, List.setIfInBounds_toArray, List.set_cons_zero, List.set_cons_succ]
    refine wpAnyH_take (i := 10) (v := ?_) rfl (by kernel_rfl) (by kernel_rfl) (by kernel_rfl) (fun _ _ _ h => h) (Or.inl ⟨by rfl, ?_⟩) (by first | exact Below.refl _ _ | exact (Below.refl _ _).alloc (Nat.le_refl _) _) ?_
    rotate_left
    · intro wS hSw
      go_simp
      try with_reducible rfl
    try simp only [List.getElem_toArray, List.getElem_cons_zero, List.getElem_cons_succ, Act.put, List.setIfInBounds_toArray, List.set_cons_zero, List.set_cons_succ]
    refine wpAnyH_ready (rs := [12]) (by kernel_rfl) (by simp) ?_
    refine AllReadyH.cons rfl (fun K hK => ?_) AllReadyH.nil
    go_simp
    refine hK.out _ _ (by exact below_drewN (a := w1.drew) (w := w1.drew.alloc (.cells #[.string a, .string b] 26)) ((Below.refl w1.heap.size w1.drew).alloc (Nat.le_refl _) _) 0) (fun _ => ?_)
    clear hK K
    try simp only [List.getElem_toArray, List.getElem_cons_zero, List.getElem_cons_succ, Act.put, List.setIfInBounds_toArray, List.set_cons_zero, List.set_cons_succ]
    refine wpAnyH_done (by kernel_rfl) ?_ _
    have hb2 : Below W.heap.size W (w1.alloc (.cells #[.string a, .string b] 26)).drew := below_drewN (HB.out.alloc HB.out.size _) 1
    have hk2 : Blk (w1.alloc (.cells #[.string a, .string b] 26)).drew w1.heap.size 26 #[.string a, .string b] := Blk.new w1 _ _
    have hk3 : Blk (w1.alloc (.cells #[.string a, .string b] 26)).drew (W.heap.size + 1 + 1) 26 #[.string ⟨#[]⟩, .string ⟨#[]⟩] := HK.out.alloc _
    have hne : W.heap.size + 1 + 1 ≠ w1.heap.size := by have := HS.out; omega
    generalize (w1.alloc (.cells #[.string a, .string b] 26)).drew = w2 at *
    have d1 : w2.cell? ⟨w1.heap.size, 0, none⟩ = some (.string a) := hk2.cell 0
    have d2 : w2.cell? ⟨w1.heap.size, 1, none⟩ = some (.string b) := hk2.cell 1
    have d3 : w2.cell? ⟨W.heap.size + 1 + 1, 0, none⟩ = some (.string ⟨#[]⟩) := hk3.cell 0
    have d4 : w2.cell? ⟨W.heap.size + 1 + 1, 1, none⟩ = some (.string ⟨#[]⟩) := hk3.cell 1
    have d5 : w2.frozen? ⟨W.heap.size + 1 + 1, 0, none⟩ = false := hk3.frozen 0
    have d6 : w2.frozen? ⟨W.heap.size + 1 + 1, 1, none⟩ = false := hk3.frozen 1
    have HB2 := Lib.hid hb2
    have HK2 := Lib.hid hk2
    have HK3 := Lib.hid hk3
    have HNE := Lib.hid hne
    clear hb2 hk2 hk3 hne hm hc d1 d2 d3 d4 d5 d6
    have d1 : w2.cell? ⟨w1.heap.size, 0, none⟩ = some (.string a) := HK2.out.cell 0
    have d2 : w2.cell? ⟨w1.heap.size, 1, none⟩ = some (.string b) := HK2.out.cell 1
    cases r
    · go_wp2_with (go_at_call 13; refine (he _).mono ?_; rintro e w3 ⟨rfl, hb3⟩; have k2 := HK2.out.below hb3 HK2.out.lt; have k3 := HK3.out.below hb3 HK3.out.lt; have HB3 := Lib.hid (HB2.out.via hb3); have HK4 := Lib.hid k3; have e1 : w3.cell? ⟨w1.heap.size, 0, none⟩ = some (.string a) := k2.cell 0; have e2 : w3.cell? ⟨w1.heap.size, 1, none⟩ = some (.string b) := k2.cell 1; have e3 : w3.cell? ⟨W.heap.size + 1 + 1, 0, none⟩ = some (.string ⟨#[]⟩) := k3.cell 0; have e4 : w3.cell? ⟨W.heap.size + 1 + 1, 1, none⟩ = some (.string ⟨#[]⟩) := k3.cell 1; have e5 : w3.frozen? ⟨W.heap.size + 1 + 1, 0, none⟩ = false := k3.frozen 0; have e6 : w3.frozen? ⟨W.heap.size + 1 + 1, 1, none⟩ = false := k3.frozen 1; clear k2 k3 hb3 d1 d2)
      all_goals
    {
      refine bodyPost_ret (results_row2 (g := W.heap.size + 1 + 1) (te := 26) (cs := #[.string a, .string b]) (fr := (0, 0)) rfl _ _ _ rfl ((HK4.out.set 0 _).set 1 _) Try.underlying26 rfl spanInfo) rfl ⟨rfl, ?_⟩
      exact (HB3.out.setCell (by simp; omega) _).setCell (by simp; omega) _ }
    · go_wp2_with (go_at_call 13; refine (he _).mono ?_; rintro e w3 ⟨rfl, hb3⟩; have k2 := HK2.out.below hb3 HK2.out.lt; have k3 := HK3.out.below hb3 HK3.out.lt; have HB3 := Lib.hid (HB2.out.via hb3); have HK4 := Lib.hid k3; have e1 : w3.cell? ⟨w1.heap.size, 0, none⟩ = some (.string a) := k2.cell 0; have e2 : w3.cell? ⟨w1.heap.size, 1, none⟩ = some (.string b) := k2.cell 1; have e3 : w3.cell? ⟨W.heap.size + 1 + 1, 0, none⟩ = some (.string ⟨#[]⟩) := k3.cell 0; have e4 : w3.cell? ⟨W.heap.size + 1 + 1, 1, none⟩ = some (.string ⟨#[]⟩) := k3.cell 1; have e5 : w3.frozen? ⟨W.heap.size + 1 + 1, 0, none⟩ = false := k3.frozen 0; have e6 : w3.frozen? ⟨W.heap.size + 1 + 1, 1, none⟩ = false := k3.frozen 1; clear k2 k3 hb3 d1 d2)
      all_goals
    {
      refine bodyPost_ret (results_row2 (g := W.heap.size + 1 + 1) (te := 26) (cs := #[.string ⟨#[]⟩, .string ⟨#[]⟩]) (fr := (0, 0)) rfl _ _ _ rfl ((HK4.out.set 0 _).set 1 _) Try.underlying26 rfl spanInfo) rfl ⟨rfl, ?_⟩
      exact (HB3.out.setCell (by simp; omega) _).setCell (by simp; omega) _ }
end Cib
