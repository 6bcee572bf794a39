/- there: the numbers of the shards that have bytes. -/
import Derived.Test.YthlpcghoijgeiaaDecT
set_option linter.unusedVariables false
set_option linter.unusedSimpArgs false
set_option maxRecDepth 40000
namespace Cib
open Go Go.RowKit Go.Proofs
/-- there under way. -/
structure ThI (w : World) (Al : Option Addr) (n cl : Nat) (D : List (List UInt8)) (p q : Nat) (A' : Option Addr) (c' : Nat) (wr : World) : Prop where
  num : (hav D p).length = q
  bs : Blk wr w.heap.size 28 #[.slice Al n cl]
  bl : Blk wr (w.heap.size + 1) 34 #[.slice A' q c']
  own : wr.ownsRow w.heap.size 3 1 (.slice A' q c') q ((hav D p).map iv)
  below : Below w.heap.size w wr
theorem ThI.skip {w wr : World} {Al : Option Addr} {n cl : Nat} {D : List (List UInt8)} {p q : Nat} {A' : Option Addr} {c' : Nat} (h : ThI w Al n cl D p q A' c' wr) (h0 : (D.getD p []).length = 0) : ThI w Al n cl D (p + 1) q A' c' wr := by
  have e : hav D (p + 1) = hav D p := by rw [hav_next, if_neg (by omega)]
  exact ⟨by rw [e]; exact h.num, h.bs, h.bl, by rw [e]; exact h.own, h.below⟩
theorem ThI.push {w wr w3 : World} {Al : Option Addr} {n cl : Nat} {D : List (List UInt8)} {p q : Nat} {A' A3 : Option Addr} {c' c3 : Nat} (h : ThI w Al n cl D p q A' c' wr) (h0 : 0 < (D.getD p []).length)
    (ho : w3.ownsRow w.heap.size 3 1 (.slice A3 (q + 1) c3) (q + 1) ((hav D p).map iv ++ [iv p])) (hg : (wr.alloc (.cells #[iv p] 3)).grownBy w3 (Value.slice A' q c').ownBlock) (hbl : Below w.heap.size (wr.alloc (.cells #[iv p] 3)) w3) :
    ThI w Al n cl D (p + 1) (q + 1) A3 c3 (w3.setCell ⟨w.heap.size + 1, 0, none⟩ (.slice A3 (q + 1) c3)) := by
  have e : hav D (p + 1) = hav D p ++ [p] := by rw [hav_next, if_pos h0]
  have hs : Same [3] (wr.alloc (.cells #[iv p] 3)) w3 := Same.grown (h.own.alloc _) hg (by simp)
  have hB := Blk.same (h.bl.alloc _) hs (by decide)
  have hS := Blk.same (h.bs.alloc _) hs (by decide)
  refine ⟨by rw [e, List.length_append, h.num]; rfl, hS.far (by show _ ≠ w.heap.size + 1; omega) _, hB.set 0 _, ?_, (((h.below.alloc h.below.size _).trans hbl).setCell (by show _ ≤ w.heap.size + 1; omega) _)⟩
  rw [e, List.map_append]
  have hnb : (Value.slice A3 (q + 1) c3).ownBlock ≠ some (w.heap.size + 1) := by
    intro he
    rcases ho.2 with ⟨h0, _⟩ | ⟨g, cap, cur, hv, _, h2, _⟩
    · injection h0 with h0
      subst h0
      simp [Value.ownBlock] at he
    · injection hv with h0
      subst h0
      simp [Value.ownBlock] at he
      subst he
      exact absurd (Ty.one (w := w3) ⟨_, _, hB⟩ ⟨_, _, h2⟩) (by decide)
  exact ownsRow_setCell_other ho hnb _
set_option maxHeartbeats 2000000 in
theorem decThere {w : World} {g gf k m c : Nat} {A : Option Addr} (h : Cdr w g gf k m A c) (L : List RowB) (B : Nat) (Al : Option Addr) (n cl : Nat) (hrl : Rd w B Al (L.map RowB.v)) (hR : RowsAt w B L) (hB : B ≤ w.heap.size) (hl : L.length = n) (hn : n = k + m) (W : Nat) (hW : 0 < W) (hLW : ∀ r ∈ L, r.n = 0 ∨ r.n = W) (nh : Nat) (hnh : (hav (bss L) n).length = nh) (hk : k ≤ nh) :
    Calls Try.prog 65 #[.pointer (some ⟨g, 0, none⟩), .slice Al n cl] w fun e w' => ∃ A' c', e = .returned (.tuple #[.slice A' nh c', .int .i64 0]) ∧ w'.ownsRow w.heap.size 3 1 (.slice A' nh c') nh ((hav (bss L) n).map iv) ∧ Below w.heap.size w w' := by
  have hk1 := h.hk
  have hs := h.hs
  have hn255 : n ≤ 255 := by omega
  have hnk : (n : Int) = (k : Int) + (m : Int) := by omega
  have hne : ((k : Int) + (m : Int) == 0) = false := by simp; omega
  have HC := Lib.hid h
  have HRL := Lib.hid hrl
  have HRR := Lib.hid hR
  have HL := Lib.hid hl
  have HLW := Lib.hid hLW
  have HNH := Lib.hid hnh
  have HN : Hid (∀ V, Below w.heap.size w V → Calls Try.prog 23 #[.pointer (some ⟨g, 0, none⟩)] V fun e w' => e = .returned (.int .i64 (n : Int)) ∧ w' = V.drew) := Lib.hid fun V hV => by rw [hnk]; exact cdN (h.below hV)
  have HKK : Hid (∀ V, Below w.heap.size w V → Calls Try.prog 42 #[.pointer (some ⟨g, 0, none⟩)] V fun e w' => e = .returned (.int .i64 (k : Int)) ∧ w' = V) := Lib.hid fun V hV => cdK (h.below hV)
  have hal : Below w.heap.size w (w.alloc (.cells #[.slice Al n cl] 28)) := (Below.refl _ _).alloc (Nat.le_refl _) _
  have HAL := Lib.hid hal
  have HI0 : Hid (ThI w Al n cl (bss L) 0 0 none 0 ((w.alloc (.cells #[.slice Al n cl] 28)).alloc (.cells #[.slice none 0 0] 34)).drew) := Lib.hid (by
    refine ⟨rfl, (Blk.new w 28 #[.slice Al n cl]).alloc _, ?_, World.ownsRow_nil _ _ _ _, below_drewN (hal.alloc (by simp) _) 1⟩
    have := Blk.new (w.alloc (.cells #[.slice Al n cl] 28)) 34 #[.slice none 0 0]
    have h2 : Blk ((w.alloc (.cells #[.slice Al n cl] 28)).alloc (.cells #[.slice none 0 0] 34)) (w.heap.size + 1) 34 #[.slice none 0 0] := by simpa using this
    exact h2.drewN 1)
  have hn0 : ((n : Int) == 0) = false := by rw [hnk]; exact hne
  have HNK := Lib.hid hn
  clear h hrl hR hl hLW hnh hal hne hnk hn
  go_enter Try.func65, Try.ntmps65
  go_wp2_with fail
  refine (HN.out _ HAL.out).mono ?_
  rintro e w1 ⟨rfl, rfl⟩
  clear HAL
  go_wp2
  go_loopw [7, 8, 15] (fun _ _ i wr => ∃ (p q : Nat) (A' : Option Addr) (c' : Nat), i = .int .i64 p ∧ p ≤ n ∧ q ≤ p ∧ Hid (ThI w Al n cl (bss L) p q A' c' wr)) (fun _ _ i _ => n - (intOf i).toNat)
  case atStart => exact ⟨0, 0, none, 0, rfl, Nat.zero_le _, Nat.le_refl _, HI0⟩
  case round =>
    clear HI0
    obtain ⟨p, q, A', c', rfl, hp, hqp, HI⟩ := hrel
    by_cases hlt : p < n
    · have hpl : p < L.length := by rw [HL.out]; exact hlt
      obtain ⟨ad, rfl, hab, hcell⟩ := (HRL.out.below (HI.out.below.mono hB)).row hpl
      have hr := HRR.out.get hpl
      have hD : Hid ((bss L).getD p [] = L[p].bs) := (show _ = _ from bss_get hpl)
      have hlw := HLW.out _ (List.getElem_mem hpl)
      have hlen := hr.len
      clear hr
      generalize L[p] = r at *
      obtain ⟨rA, rn, rc, rbs⟩ := r
      simp only at hcell hlw hlen hD
      have hsz := HI.out.below.size
      rcases hlw with rfl | rfl
      · have HI2 := Lib.hid (HI.out.skip (by rw [hD.out]; exact hlen))
        clear HI hD hpl
        go_wp2
        go_roundw
        case rel => exact ⟨p + 1, q, A', c', by go_num, hlt, by omega, HI2⟩
        case measure => simp [intOf]; omega
      · have hb := HI.out.bl.cell 0
        simp only [List.getElem?_toArray, List.getElem?_cons_zero] at hb
        have hfz := HI.out.bl.frozen 0
        have HO := Lib.hid HI.out.own
        have HB6 := Lib.hid HI.out.bl
        have HPU := Lib.hid fun A3 c3 w3 ho hg hbl => HI.out.push (A3 := A3) (c3 := c3) (w3 := w3) (by rw [hD.out]; omega) ho hg hbl
        clear HI hD hpl
        go_wp2_with (at_builtin; refine appI _ rfl (.tmp 23) (.tmp 25) rfl w.heap.size A' q c' ((hav (bss L) p).map iv) rfl (HO.out.alloc _) _ (some ⟨wr.heap.size, 0, none⟩) 1 1 [iv p] rfl rfl (Rd.new wr _ _ _ rfl) (one_iv p) (by omega) (by simp; omega) ?_; intro A3 c3 w3 ho3 hg3 hb3; have HI3 := Lib.hid (HPU.out A3 c3 w3 ho3 hg3 hb3); have hs3 := Blk.same (HB6.out.alloc _) (Same.grown (ts := [3]) (HO.out.alloc _) hg3 (by simp)) (by decide); have hb3c := hs3.cell 0; simp only [List.getElem?_toArray, List.getElem?_cons_zero] at hb3c; have hb3f := hs3.frozen 0; clear hs3 ho3 hg3 hb3)
        go_roundw
        case rel => exact ⟨p + 1, q + 1, A3, c3, by go_num, hlt, by omega, HI3⟩
        case measure => simp [intOf]; omega
    · obtain rfl : p = n := by omega
      obtain rfl : q = nh := by rw [← HNH.out]; exact HI.out.num.symm
      have hq0 : 0 < (hav (bss L) p).length := by rw [HNH.out]; omega
      have hm0 := hav_mem.1 (List.getElem_mem hq0)
      have hu0 : (hav (bss L) p)[0] < L.length := by rw [HL.out]; exact hm0.1
      obtain ⟨ah, rfl, hbh, hch⟩ := Rd.of_own HI.out.own (by intro e; rw [List.map_eq_nil_iff] at e; rw [e] at hq0; cases hq0)
      have hch0 := hch 0 (by simpa using hq0)
      rw [List.getElem_map, addr_add_zero] at hch0
      obtain ⟨al, rfl, hbal, hcl0⟩ := HRL.out.row hu0
      have hWn : ∀ (u : Nat) (hu : u < L.length), 0 < ((bss L).getD u []).length → L[u].n = W := by
        intro u hu hp0
        rw [bss_get hu] at hp0
        have h1 := (HRR.out.get hu).len
        rcases HLW.out _ (List.getElem_mem hu) with h2 | h2
        · omega
        · exact h2
      have HODD : Hid (∀ (V : World), Below wr.heap.size wr V → ∀ (j : Nat) (hj : j < (hav (bss L) p).length), Calls Try.prog 73 #[.int .i64 ((hav (bss L) p)[j] : Int), .pointer (some ⟨w.heap.size, 0, none⟩), .pointer (some ⟨w.heap.size + 1, 0, none⟩)] V fun e w' => e = .returned (.bool false) ∧ Below V.heap.size V w') := Lib.hid fun V hV j hj => by
        have hmj := hav_mem.1 (List.getElem_mem hj)
        have huj : (hav (bss L) p)[j] < L.length := by rw [HL.out]; exact hmj.1
        obtain ⟨al', e', _, hcj⟩ := HRL.out.row huj
        injection e' with e'
        subst e'
        have hVw := HI.out.below.via hV
        have h1 := (hVw.cell (p := al.add (hav (bss L) p)[j]) (by rw [addr_add_block]; omega)).trans hcj
        have h2 := (hVw.cell (p := al.add (hav (bss L) p)[0]) (by rw [addr_add_block]; omega)).trans hcl0
        rw [hWn _ huj hmj.2] at h1
        rw [hWn _ hu0 hm0.2] at h2
        exact decOdd w.heap.size (w.heap.size + 1) (hav (bss L) p)[j] (hav (bss L) p)[0] W (some al) (some ah) p cl q c' al ah _ _ _ _ V rfl rfl hmj.1 hm0.1 (by omega) ((HI.out.bs.below hV HI.out.bs.lt).cell 0) ((HI.out.bl.below hV HI.out.bl.lt).cell 0) h1 ((hV.cell (p := ah) hbh).trans hch0) h2
      have HCO := Lib.hid fun (V : World) (hV : Below wr.heap.size wr V) => byContainsNo 73 #[.pointer (some ⟨w.heap.size, 0, none⟩), .pointer (some ⟨w.heap.size + 1, 0, none⟩)] (some ah) q c' V (byIndexNo 73 #[.pointer (some ⟨w.heap.size, 0, none⟩), .pointer (some ⟨w.heap.size + 1, 0, none⟩)] (some ah) q c' (hav (bss L) p) HI.out.num V.heap.size V (Rd.of_own (own_via HI.out.own hV)) (Nat.le_refl _) (by omega) (fun a V => by go_simp) (fun j hj V2 hV2 => HODD.out V2 (hV.via hV2) j hj))
      have HP : Hid (∀ V, Below wr.heap.size wr V → V.cell? ⟨w.heap.size, 0, none⟩ = some (.slice (some al) p cl) ∧ V.cell? ⟨w.heap.size + 1, 0, none⟩ = some (.slice (some ah) q c')) := Lib.hid fun V hV => by
        have h1 := (HI.out.bs.below hV HI.out.bs.lt).cell 0
        have h2 := (HI.out.bl.below hV HI.out.bl.lt).cell 0
        simp only [List.getElem?_toArray, List.getElem?_cons_zero] at h1 h2
        exact ⟨h1, h2⟩
      have HO := Lib.hid HI.out.own
      have HBW := Lib.hid HI.out.below
      have HD1 : Hid (Below wr.heap.size wr wr.drew) := Lib.hid (below_drewN (Below.refl _ _) 1)
      have HD2 : Hid (Below wr.heap.size wr wr.drew.drew) := Lib.hid (below_drewN (Below.refl _ _) 2)
      clear HI HODD hch hch0 hbh hbal hcl0 hWn hm0 hu0 hq0 hlt hp
      go_wp2
      refine wp_region_held_drew (S := (fun wQq => wQq.cell? ⟨w.heap.size, 0, none⟩ = some (.slice (some al) p cl) ∧ wQq.cell? ⟨w.heap.size + 1, 0, none⟩ = some (.slice (some ah) q c'))) (by kernel_rfl) ((HP.out _ HD1.out)) (fun _ => ?_)
      refine wpAnyH_take (i := 2) (v := ?_) rfl (by kernel_rfl) (by kernel_rfl) (by kernel_rfl) (fun _ _ _ h => h) (Or.inl ⟨by rfl, ?_⟩) ((HP.out _ HD1.out)) ?_
      rotate_left
      · intro wS hSw
        go_simp
        try with_reducible rfl
      try simp only [List.getElem_toArray, List.getElem_cons_zero, List.getElem_cons_succ, Act.put, List.setIfInBounds_toArray, List.set_cons_zero, List.set_cons_succ]
      refine wpAnyH_take (i := 0) (v := ?_) rfl (by kernel_rfl) (by kernel_rfl) (by kernel_rfl) (fun _ _ _ h => h) (Or.inl ⟨by rfl, ?_⟩) ((HP.out _ HD1.out)) ?_
      rotate_left
      · intro wS hSw
        have hcv := hSw.1
        go_simp
        try with_reducible rfl
      try simp only [List.getElem_toArray, List.getElem_cons_zero, List.getElem_cons_succ, Act.put, List.setIfInBounds_toArray, List.set_cons_zero, List.set_cons_succ]
      refine wpAnyH_take (i := 1) (v := ?_) rfl (by kernel_rfl) (by kernel_rfl) (by kernel_rfl) (fun _ _ _ h => h) (Or.inl ⟨by rfl, ?_⟩) ((HP.out _ HD1.out)) ?_
      rotate_left
      · intro wS hSw
        go_simp
        try with_reducible rfl
      try simp only [List.getElem_toArray, List.getElem_cons_zero, List.getElem_cons_succ, Act.put, List.setIfInBounds_toArray, List.set_cons_zero, List.set_cons_succ]
      refine wpAnyH_ready (rs := [3]) (by kernel_rfl) (by simp) ?_
      refine AllReadyH.cons rfl (fun K hK => ?_) AllReadyH.nil
      go_simp
      refine (HN.out _ (HBW.out.via HD1.out)).mono ?_
      rintro e w2 ⟨rfl, rfl⟩
      refine hK.out _ _ (HP.out _ HD2.out) (fun _ => ?_)
      clear hK K
      try simp only [List.getElem_toArray, List.getElem_cons_zero, List.getElem_cons_succ, Act.put, List.setIfInBounds_toArray, List.set_cons_zero, List.set_cons_succ]
      refine wpAnyH_take (i := 4) (v := ?_) rfl (by kernel_rfl) (by kernel_rfl) (by kernel_rfl) (fun _ _ _ h => h) (Or.inl ⟨by rfl, ?_⟩) (HP.out _ HD2.out) ?_
      rotate_left
      · intro wS hSw
        go_simp
        try with_reducible rfl
      try simp only [List.getElem_toArray, List.getElem_cons_zero, List.getElem_cons_succ, Act.put, List.setIfInBounds_toArray, List.set_cons_zero, List.set_cons_succ]
      refine wpAnyH_take (i := 5) (v := ?_) rfl (by kernel_rfl) (by kernel_rfl) (by kernel_rfl) (fun _ _ _ h => h) (Or.inl ⟨by rfl, ?_⟩) (HP.out _ HD2.out) ?_
      rotate_left
      · intro wS hSw
        go_simp
        try with_reducible rfl
      try simp only [List.getElem_toArray, List.getElem_cons_zero, List.getElem_cons_succ, Act.put, List.setIfInBounds_toArray, List.set_cons_zero, List.set_cons_succ]
      refine wpAnyH_take (i := 7) (v := ?_) rfl (by kernel_rfl) (by kernel_rfl) (by kernel_rfl) (fun _ _ _ h => h) (Or.inl ⟨by rfl, ?_⟩) (HP.out _ HD2.out) ?_
      rotate_left
      · intro wS hSw
        go_simp
        try with_reducible rfl
      try simp only [List.getElem_toArray, List.getElem_cons_zero, List.getElem_cons_succ, Act.put, List.setIfInBounds_toArray, List.set_cons_zero, List.set_cons_succ]
      refine wpAnyH_take (i := 6) (v := ?_) rfl (by kernel_rfl) (by kernel_rfl) (by kernel_rfl) (fun _ _ _ h => h) (Or.inl ⟨by rfl, ?_⟩) (HP.out _ HD2.out) ?_
      rotate_left
      · intro wS hSw
        have hcv := hSw.2
        go_simp
        try with_reducible rfl
      try simp only [List.getElem_toArray, List.getElem_cons_zero, List.getElem_cons_succ, Act.put, List.setIfInBounds_toArray, List.set_cons_zero, List.set_cons_succ]
      refine wpAnyH_ready (rs := [8]) (by kernel_rfl) (by simp) ?_
      refine AllReadyH.cons rfl (fun K hK => ?_) AllReadyH.nil
      go_simp
      refine (HCO.out _ HD2.out).mono ?_
      rintro e w3 ⟨rfl, hb3⟩
      have HD3 : Hid (Below wr.heap.size wr w3) := Lib.hid (HD2.out.via hb3)
      clear hb3
      refine hK.out _ _ (HP.out _ HD3.out) (fun _ => ?_)
      clear hK K
      try simp only [List.getElem_toArray, List.getElem_cons_zero, List.getElem_cons_succ, Act.put, List.setIfInBounds_toArray, List.set_cons_zero, List.set_cons_succ]
      refine wpAnyH_take (i := 9) (v := ?_) rfl (by kernel_rfl) (by kernel_rfl) (by kernel_rfl) (fun _ _ _ h => h) (Or.inl ⟨by rfl, ?_⟩) (HP.out _ HD3.out) ?_
      rotate_left
      · intro wS hSw
        go_simp
        try with_reducible rfl
      try simp only [List.getElem_toArray, List.getElem_cons_zero, List.getElem_cons_succ, Act.put, List.setIfInBounds_toArray, List.set_cons_zero, List.set_cons_succ]
      refine wpAnyH_take (i := 10) (v := ?_) rfl (by kernel_rfl) (by kernel_rfl) (by kernel_rfl) (fun _ _ _ h => h) (Or.inl ⟨by rfl, ?_⟩) (HP.out _ HD3.out) ?_
      rotate_left
      · intro wS hSw
        go_simp
        try with_reducible rfl
      try simp only [List.getElem_toArray, List.getElem_cons_zero, List.getElem_cons_succ, Act.put, List.setIfInBounds_toArray, List.set_cons_zero, List.set_cons_succ]
      refine wpAnyH_done (by kernel_rfl) ?_ _
      have HD4 : Hid (Below wr.heap.size wr w3.drew) := Lib.hid (below_drewN HD3.out 1)
      go_wp2
      refine wp_region_held_drew (S := (fun wQq => wQq.cell? ⟨w.heap.size, 0, none⟩ = some (.slice (some al) p cl) ∧ wQq.cell? ⟨w.heap.size + 1, 0, none⟩ = some (.slice (some ah) q c'))) (by kernel_rfl) ((HP.out _ HD4.out)) (fun _ => ?_)
      refine wpAnyH_take (i := 2) (v := ?_) rfl (by kernel_rfl) (by kernel_rfl) (by kernel_rfl) (fun _ _ _ h => h) (Or.inl ⟨by rfl, ?_⟩) ((HP.out _ HD4.out)) ?_
      rotate_left
      · intro wS hSw
        go_simp
        try with_reducible rfl
      try simp only [List.getElem_toArray, List.getElem_cons_zero, List.getElem_cons_succ, Act.put, List.setIfInBounds_toArray, List.set_cons_zero, List.set_cons_succ]
      refine wpAnyH_take (i := 0) (v := ?_) rfl (by kernel_rfl) (by kernel_rfl) (by kernel_rfl) (fun _ _ _ h => h) (Or.inl ⟨by rfl, ?_⟩) ((HP.out _ HD4.out)) ?_
      rotate_left
      · intro wS hSw
        have hcv := hSw.2
        go_simp
        try with_reducible rfl
      try simp only [List.getElem_toArray, List.getElem_cons_zero, List.getElem_cons_succ, Act.put, List.setIfInBounds_toArray, List.set_cons_zero, List.set_cons_succ]
      refine wpAnyH_take (i := 1) (v := ?_) rfl (by kernel_rfl) (by kernel_rfl) (by kernel_rfl) (fun _ _ _ h => h) (Or.inl ⟨by rfl, ?_⟩) ((HP.out _ HD4.out)) ?_
      rotate_left
      · intro wS hSw
        go_simp
        try with_reducible rfl
      try simp only [List.getElem_toArray, List.getElem_cons_zero, List.getElem_cons_succ, Act.put, List.setIfInBounds_toArray, List.set_cons_zero, List.set_cons_succ]
      refine wpAnyH_ready (rs := [3]) (by kernel_rfl) (by simp) ?_
      refine AllReadyH.cons rfl (fun K hK => ?_) AllReadyH.nil
      go_simp
      refine (HKK.out _ (HBW.out.via HD4.out)).mono ?_
      rintro e w5 ⟨rfl, rfl⟩
      refine hK.out _ _ (HP.out _ HD4.out) (fun _ => ?_)
      clear hK K
      try simp only [List.getElem_toArray, List.getElem_cons_zero, List.getElem_cons_succ, Act.put, List.setIfInBounds_toArray, List.set_cons_zero, List.set_cons_succ]
      refine wpAnyH_take (i := 4) (v := ?_) rfl (by kernel_rfl) (by kernel_rfl) (by kernel_rfl) (fun _ _ _ h => h) (Or.inl ⟨by rfl, ?_⟩) (HP.out _ HD4.out) ?_
      rotate_left
      · intro wS hSw
        go_simp
        try with_reducible rfl
      try simp only [List.getElem_toArray, List.getElem_cons_zero, List.getElem_cons_succ, Act.put, List.setIfInBounds_toArray, List.set_cons_zero, List.set_cons_succ]
      refine wpAnyH_take (i := 5) (v := ?_) rfl (by kernel_rfl) (by kernel_rfl) (by kernel_rfl) (fun _ _ _ h => h) (Or.inl ⟨by rfl, ?_⟩) (HP.out _ HD4.out) ?_
      rotate_left
      · intro wS hSw
        go_simp
        try with_reducible rfl
      try simp only [List.getElem_toArray, List.getElem_cons_zero, List.getElem_cons_succ, Act.put, List.setIfInBounds_toArray, List.set_cons_zero, List.set_cons_succ]
      refine wpAnyH_done (by kernel_rfl) ?_ _
      obtain ⟨_, y6⟩ := HP.out _ HD4.out
      go_wp2
      first | go_ret2 | go_ret
      exact ⟨some ah, c', rfl, own_via HO.out HD4.out, HBW.out.via HD4.out⟩
end Cib
