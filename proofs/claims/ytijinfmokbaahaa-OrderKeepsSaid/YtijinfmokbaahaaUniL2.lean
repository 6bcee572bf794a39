/- OrderKeeps: the walk. Printed by genU.py. -/
import Derived.Test.YtijinfmokbaahaaUniL1
set_option linter.unusedVariables false
set_option linter.unusedSimpArgs false
set_option maxRecDepth 40000
namespace Cib
open Go Go.RowKit Go.Proofs
theorem short_len {l : List ByteArray} (h : Ord.shortB l = true) : l.length ≤ 60 := by
  unfold Ord.shortB at h
  rw [Bool.and_eq_true, decide_eq_true_eq] at h
  exact h.2
theorem wpList_appT {w : World} {ops : Array Oper} {rest : List Oper} {o : Oper} {a : Act} {Q : Exit → Act → World → Prop} (hgd : o.guard = none) (s x : Operand)
    (ho : o.op = .call { callee := .builtin .append, args := #[s, x], argTypes := #[23, 23] })
    (base : Nat) (A0 : Option Addr) (n0 c0 : Nat) (E : List ByteArray) (hs : a.eval s = .slice A0 n0 c0) (hown : OwnT w base A0 n0 c0 E)
    (B : Nat) (A : Option Addr) (m c : Nat) (M : List ByteArray) (hx : a.eval x = .slice A m c) (hm : M.length = m) (hr : Rd w B A (M.map Value.string)) (h63 : n0 + m ≤ 1000) (hbase : base ≤ w.heap.size)
    (h : ∀ A' c' w', OwnT w' base A' (n0 + m) c' (E ++ M) → w.grownBy w' (Value.slice A0 n0 c0).ownBlock → Below base w w' → wpList Try.prog ops Q rest (a.put o.dst (.slice A' (n0 + m) c')) w') :
    wpList Try.prog ops Q (o :: rest) a w :=
  wpList_plain hgd fun K hK => wp_appT s x ho base A0 n0 c0 E hs hown B A m c M hx hm hr h63 hbase (fun A' c' w' h2 h3 h4 => hK _ _ (h A' c' w' h2 h3 h4))
/-- What stays: the span, what is in order, what is left. -/
structure KS (W : World) (f t : ByteArray) (Au : Option Addr) (nu cu : Nat) (Ou : List Sn) (Am : Option Addr) (nm cm : Nat) (Om : List Sn) (w : World) : Prop where
  ss : SS W f t w
  u : Own w W.heap.size Au nu cu Ou
  m : Own w W.heap.size Am nm cm Om
section
variable {W w w' : World} {f t : ByteArray} {Au Am : Option Addr} {nu cu nm cm : Nat} {Ou Om : List Sn}
theorem KS.via (h : KS W f t Au nu cu Ou Am nm cm Om w) (hb : Below w.heap.size w w') : KS W f t Au nu cu Ou Am nm cm Om w' := ⟨h.ss.via hb, h.u.via hb, h.m.via hb⟩
end
set_option maxHeartbeats 8000000 in
theorem lawKeeps (A : Option Addr) (n c : Nat) (L : List Sn) (f t : ByteArray) (Ak : Option Addr) (nk ck : Nat) (keys : List ByteArray) (W : World) (hL : L.length = n) (hnc : n ≤ c) (hcm : c ≤ maxLen) (h : Rd W W.heap.size A (cellsL L))
    (hK : keys.length = nk) (hnk : nk ≤ ck) (hck : ck ≤ maxLen) (hk : Rd W W.heap.size Ak (keys.map Value.string)) :
    Calls Try.prog 7 #[.slice A n c, .agg #[.string f, .string t], .slice Ak nk ck] W fun e w' => e = .returned (.bool true) ∧ Below W.heap.size W w' := by
  have HO := Lib.hid lawOrders
  have HW : Hid (SS W f t (W.alloc (.cells #[.string f, .string t] 26))) := Lib.hid ⟨⟨#[.string f, .string t], Blk.new _ _ _, rfl, rfl⟩, (Below.refl _ _).alloc (Nat.le_refl _) _⟩
  obtain ⟨r1, hr1⟩ : ∃ r, Ord.shortB keys = r := ⟨_, rfl⟩
  obtain ⟨r2, hr2⟩ : ∃ r, Ord.fewB L = r := ⟨_, rfl⟩
  obtain ⟨r3, hr3⟩ : ∃ r, Ord.fewB [(f, t)] = r := ⟨_, rfl⟩
  have HSH : Hid (∀ w : World, SS W f t w → Calls Try.prog 8 #[.slice Ak nk ck] w fun e w' => e = .returned (.bool r1) ∧ Below w.heap.size w w') := fun w hm => by
    have := lawShort (w := w) (l := keys) (hk.below hm.below) hK (by omega) ck
    rw [hr1] at this
    exact this.mono fun e w' ⟨he, hw⟩ => ⟨he, by rw [hw]; exact Below.refl _ _⟩
  have HF1 : Hid (∀ w : World, SS W f t w → Calls Try.prog 14 #[.slice A n c] w fun e w' => e = .returned (.bool r2) ∧ Below w.heap.size w w') := fun w hm => by
    have := lawFew (w := w) (l := L) (h.below hm.below) hL (by omega) c
    rw [hr2] at this
    exact this.mono fun e w' ⟨he, hw⟩ => ⟨he, by rw [hw]; exact Below.refl _ _⟩
  have HF2 : Hid (∀ w : World, Calls Try.prog 14 #[.slice (some ⟨w.heap.size, 0, none⟩) 1 1] (w.alloc (.cells #[.string f, .string t] 26)) fun e w' => e = .returned (.bool r3) ∧ Below w.heap.size w w') := fun w => by
    have := lawFew (w := w.alloc (.cells #[.string f, .string t] 26)) (l := [(f, t)]) (Rd.new w #[.string f, .string t] 26 (0, 0) rfl) rfl (by unfold maxLen; simp) 1
    rw [hr3] at this
    exact this.mono fun e w' ⟨he, hw⟩ => ⟨he, by rw [hw]; exact (Below.refl _ _).alloc (Nat.le_refl _) _⟩
  have HN60 : Hid (r1 = true → nk ≤ 60) := Lib.hid (fun e => by rw [← hK]; exact short_len (hr1.trans e))
  have HN40 : Hid (r2 = true → n ≤ 40 ∧ ∀ x ∈ L, x.1.size ≤ 200) := Lib.hid (fun e => by
    have h1 := few_len (hr2.trans e)
    exact ⟨by rw [← hL]; exact h1, fun x hx => (few_of (hr2.trans e) (by omega) x hx).1⟩)
  have HRD := Lib.hid (And.intro h (And.intro hL (rd_none h hL)))
  have HRK := Lib.hid (And.intro hk hK)
  clear hr1 hr2 hr3 h hL hnc hcm hk hK hnk hck
  go_enter Try.func7, Try.ntmps7
  go_upto_region 0 with fail
  go_cut [4, 6] (fun x4 x6 wx => x4 = .pointer (some ⟨W.heap.size, 0, none⟩) ∧ x6 = .bool false ∧ Hid (SS W f t wx))
  case first =>
    go_wp2
    go_meet; exact ⟨rfl, rfl, HW⟩
  case rest =>
  obtain ⟨rfl, rfl, HMS⟩ := hcut
  clear HW
  go_wp2_with fail
  refine (HSH.out _ HMS.out).mono ?_
  rintro e w1 ⟨rfl, hb1⟩
  have M1 := Lib.hid (HMS.out.via hb1)
  have d0 := M1.out.c0
  have d1 := M1.out.c1
  cases r1
  · go_wp2_with (go_at_call 9; refine (HO.out _).mono ?_; rintro e w2 ⟨rfl, hb2⟩)
    go_ret
    exact ⟨rfl, (M1.out.via hb2).below⟩
  go_wp2_with fail
  refine (HF1.out _ M1.out).mono ?_
  rintro e w2 ⟨rfl, hb2⟩
  have M2 := Lib.hid (M1.out.via hb2)
  clear d0 d1
  have d0 := M2.out.c0
  have d1 := M2.out.c1
  cases r2
  · go_wp2_with (go_at_call 9; refine (HO.out _).mono ?_; rintro e w3 ⟨rfl, hb3⟩)
    go_ret
    exact ⟨rfl, (M2.out.via hb3).below⟩
  go_wp2_with fail
  refine (HF2.out _).mono ?_
  rintro e w3 ⟨rfl, hb3⟩
  have M3 := Lib.hid (M2.out.via hb3)
  clear d0 d1
  cases r3
  · go_wp2_with (go_at_call 9; refine (HO.out _).mono ?_; rintro e w4 ⟨rfl, hb4⟩)
    go_ret
    exact ⟨rfl, (M3.out.via hb4).below⟩
  have hn40 : n ≤ 40 := (HN40.out (by trivial)).1
  have hnk60 : nk ≤ 60 := HN60.out (by trivial)
  have HX200 : Hid (∀ x ∈ L, x.1.size ≤ 200) := Lib.hid (HN40.out (by trivial)).2
  have HU : Hid (∀ w, SS W f t w → _) := Lib.hid (fun w (hm : SS W f t w) => unionAl w W.heap.size n c A L HRD.out.2.1 (HRD.out.1.below hm.below) hm.below.size (by omega) HRD.out.2.2)
  have HM : Hid (∀ w, SS W f t w → _) := Lib.hid (fun w (hm : SS W f t w) => minusAl w W.heap.size n c A L f t HRD.out.2.1 (HRD.out.1.below hm.below) hm.below.size (by omega) HRD.out.2.2)
  have HC : Hid (∀ key w, SS W f t w → _) := Lib.hid (fun key w (hm : SS W f t w) => coversAl w W.heap.size n c A L key HRD.out.2.1 (HRD.out.1.below hm.below) hm.below.size (by omega))
  have HIN : Hid (∀ key w, _) := Lib.hid (fun key w => ordIn (f, t) key w)
  unfold sp at HIN
  dsimp only at HIN
  have HSAME := Lib.hid (fun (w : World) (n c c' : Nat) (A A' : Option Addr) (O : List Sn) hl h1 h2 hn => refSameAl w w.heap.size n c c' A A' O hl h1 h2 (Nat.le_refl _) hn)
  have HORD := Lib.hid (fun (w : World) (n c : Nat) (A : Option Addr) (O : List Sn) (ho : Own w W.heap.size A n c O) hn hc => orderedAl w w.heap.size n c A O ho.len ho.rd (Nat.le_refl _) hn hc)
  have HUN := Lib.hid (fun (w : World) (n c : Nat) (A : Option Addr) (O : List Sn) (ho : Own w W.heap.size A n c O) hn => unionAl w w.heap.size n c A O ho.len ho.rd (Nat.le_refl _) hn (rd_none ho.rd ho.len))
  have HMN := Lib.hid (fun (w : World) (n c : Nat) (A : Option Addr) (O : List Sn) (ho : Own w W.heap.size A n c O) hn => minusAl w w.heap.size n c A O f t ho.len ho.rd (Nat.le_refl _) hn (rd_none ho.rd ho.len))
  have HCO := Lib.hid (fun (key : ByteArray) (w : World) (n c : Nat) (A : Option Addr) (O : List Sn) (ho : Own w W.heap.size A n c O) hn => coversAl w w.heap.size n c A O key ho.len ho.rd (Nat.le_refl _) hn)
  clear HSH HF1 HF2 HN40 HN60 M1 M2 HMS hb1 hb2 hb3
  go_wp2_with fail
  refine wp_region_held_drew (S := (SS W f t)) (by kernel_rfl) (M3.out.drew) (fun _ => ?_)
  refine wpAnyH_take (i := 0) (v := ?_) rfl (by kernel_rfl) (by kernel_rfl) (by kernel_rfl) (fun _ _ _ h => h) (Or.inl ⟨by rfl, ?_⟩) (M3.out.drew) ?_
  rotate_left
  · intro wS hSw
    go_simp
    try with_reducible rfl
  try simp only [List.getElem_toArray, List.getElem_cons_zero, List.getElem_cons_succ, Act.put, List.setIfInBounds_toArray, List.set_cons_zero, List.set_cons_succ]
  refine wpAnyH_take (i := 2) (v := ?_) rfl (by kernel_rfl) (by kernel_rfl) (by kernel_rfl) (fun _ _ _ h => h) (Or.inl ⟨by rfl, ?_⟩) (M3.out.drew) ?_
  rotate_left
  · intro wS hSw
    go_simp
    try with_reducible rfl
  try simp only [List.getElem_toArray, List.getElem_cons_zero, List.getElem_cons_succ, Act.put, List.setIfInBounds_toArray, List.set_cons_zero, List.set_cons_succ]
  refine wpAnyH_take (i := 3) (v := ?_) rfl (by kernel_rfl) (by kernel_rfl) (by kernel_rfl) (fun _ _ _ h => h) (Or.inl ⟨by rfl, ?_⟩) (M3.out.drew) ?_
  rotate_left
  · intro wS hSw
    have hcv := hSw.c0
    have hcv2 := hSw.c1
    go_simp
    try with_reducible rfl
  try simp only [List.getElem_toArray, List.getElem_cons_zero, List.getElem_cons_succ, Act.put, List.setIfInBounds_toArray, List.set_cons_zero, List.set_cons_succ]
  refine wpAnyH_ready (rs := [1]) (by kernel_rfl) (by simp) ?_
  refine AllReadyH.cons rfl (fun K hK => ?_) AllReadyH.nil
  go_simp
  refine (HU.out _ M3.out.drew).mono ?_
  rintro e w4 ⟨Au, nu, cu, rfl, Ou, ho4, hcan4, hcov4, hn4, hb4⟩
  have M4 := Lib.hid (M3.out.drew.via hb4)
  have HO4 := Lib.hid ho4
  have HKU := Lib.hid (And.intro hcan4 hcov4)
  clear ho4 hcan4 hcov4 hb4
  refine hK.out _ _ M4.out (fun _ => ?_)
  clear hK K
  try simp only [List.getElem_toArray, List.getElem_cons_zero, List.getElem_cons_succ, Act.put, List.setIfInBounds_toArray, List.set_cons_zero, List.set_cons_succ]
  refine wpAnyH_ready (rs := [4]) (by kernel_rfl) (by simp) ?_
  refine AllReadyH.cons rfl (fun K hK => ?_) AllReadyH.nil
  go_simp
  refine (HM.out _ M4.out).mono ?_
  rintro e w5 ⟨Am, nm, cm, rfl, Om, ho5, hcan5, hcov5, hn5, hb5⟩
  have M5 := Lib.hid (M4.out.via hb5)
  have HKS : Hid (KS W f t Au nu cu Ou Am nm cm Om w5) := Lib.hid ⟨M5.out, (HO4.out.via hb5).lower M3.out.drew.below.size, ho5.lower M4.out.below.size⟩
  have HKM := Lib.hid (And.intro hcan5 hcov5)
  clear HO4 ho5 hcan5 hcov5 hb5
  refine hK.out _ _ M5.out (fun _ => ?_)
  clear hK K
  try simp only [List.getElem_toArray, List.getElem_cons_zero, List.getElem_cons_succ, Act.put, List.setIfInBounds_toArray, List.set_cons_zero, List.set_cons_succ]
  refine wpAnyH_take (i := 5) (v := ?_) rfl (by kernel_rfl) (by kernel_rfl) (by kernel_rfl) (fun _ _ _ h => h) (Or.inl ⟨by rfl, ?_⟩) M5.out ?_
  rotate_left
  · intro wS hSw
    go_simp
    try with_reducible rfl
  try simp only [List.getElem_toArray, List.getElem_cons_zero, List.getElem_cons_succ, Act.put, List.setIfInBounds_toArray, List.set_cons_zero, List.set_cons_succ]
  refine wpAnyH_take (i := 6) (v := ?_) rfl (by kernel_rfl) (by kernel_rfl) (by kernel_rfl) (fun _ _ _ h => h) (Or.inl ⟨by rfl, ?_⟩) M5.out ?_
  rotate_left
  · intro wS hSw
    go_simp
    try with_reducible rfl
  try simp only [List.getElem_toArray, List.getElem_cons_zero, List.getElem_cons_succ, Act.put, List.setIfInBounds_toArray, List.set_cons_zero, List.set_cons_succ]
  refine wpAnyH_done (by kernel_rfl) ?_ _
  clear M3 M4 M5 HU HM
  go_wp2_with fail
  refine (HORD.out w5 _ _ _ _ HKS.out.u (by omega) HKU.out.1).mono ?_
  rintro e w6 ⟨rfl, hb6⟩
  have HKS6 := Lib.hid (HKS.out.via hb6)
  clear HKS hb6
  go_wp2_with fail
  refine (HORD.out w6 _ _ _ _ HKS6.out.m (by omega) HKM.out.1).mono ?_
  rintro e w7 ⟨rfl, hb7⟩
  have HKS7 := Lib.hid (HKS6.out.via hb7)
  clear HKS6 hb7 HORD
  have HRK7 : Hid (Rd w7 W.heap.size Ak (keys.map Value.string)) := Lib.hid (HRK.out.1.below HKS7.out.ss.below)
  have HRKL : Hid (keys.length = nk) := Lib.hid HRK.out.2
  go_wp2_with (at_builtin; go_loud (refine wpList_appT rfl (.tmp 43) (.tmp 44) rfl w7.heap.size none 0 0 [] rfl (World.ownsRow_nil _ _ _ _) W.heap.size Ak nk ck keys rfl HRKL.out HRK7.out (by omega) (Nat.le_refl _) ?_; intro A8 c8 w8 ho8 hg8 hb8; have HO8 := Lib.hid ho8; have HB8 := Lib.hid hb8; clear ho8 hg8 hb8))
  have HO9 : Hid (OwnT w8 w7.heap.size A8 nk c8 keys) := Lib.hid (by simpa using HO8.out)
  clear HO8 HRK HRK7 HRKL
  go_loopw [9, 10] (fun x9 x10 wx => ∃ (i k9 c9 : Nat) (A9 : Option Addr) (T : List ByteArray), x10 = .int .i64 i ∧ x9 = .slice A9 k9 c9 ∧ i ≤ n ∧ k9 ≤ 60 + 3 * i ∧ Hid (OwnT wx w7.heap.size A9 k9 c9 T) ∧ Hid (Below w7.heap.size w7 wx)) (fun _ x10 _ => n - (Go.RowKit.intOf x10).toNat)
  case atStart => exact ⟨0, nk, c8, A8, keys, rfl, by simp, Nat.zero_le _, by omega, HO9, HB8⟩
  case round =>
    clear HO9 HB8
    obtain ⟨i, k9, c9, A9, T, rfl, rfl, hi, hk9, HOT, HBx⟩ := hrel
    by_cases hlt : i < n
    · skip
      have hiL : i < L.length := by rw [HRD.out.2.1]; exact hlt
      obtain ⟨b, off, rfl, hd1, hd2⟩ := spanAt (HRD.out.1.below (HKS7.out.ss.below.via HBx.out)) hiL
      clear hd1 hd2
      obtain ⟨x, hx⟩ : ∃ x, L[i] = x := ⟨_, rfl⟩
      have HCELL : Hid (∀ w, Below w7.heap.size w7 w → w.cell? ⟨b, off + i * 2, none⟩ = some (.string x.1) ∧ w.cell? ⟨b, off + i * 2 + 1, none⟩ = some (.string x.2)) := Lib.hid (fun w hw => (HRD.out.1.below (HKS7.out.ss.below.via hw)).sp hiL hx)
      have hxz : x.1.size ≤ 200 := by rw [← hx]; exact HX200.out _ (List.getElem_mem hiL)
      have HNX := Lib.hid (fun W => ordNext x.1 (by omega) W)
      obtain ⟨xf, xt⟩ := x
      obtain ⟨nx, hnx⟩ : ∃ nx, xf ++ (⟨#[0]⟩ : ByteArray) = nx := ⟨_, rfl⟩
      dsimp only at HCELL HNX
      rw [hnx] at HNX
      have HO10 : Hid (OwnT (wr.drew.alloc (.cells #[.string xf, .string xt, .string nx] 9)) w7.heap.size A9 k9 c9 T) := Lib.hid (HOT.out.via (below_drewN ((Below.refl _ _).alloc (Nat.le_refl _) _) 1))
      have HB10 : Hid (Below w7.heap.size w7 (wr.drew.alloc (.cells #[.string xf, .string xt, .string nx] 9))) := Lib.hid ((below_drewN HBx.out 1).alloc HBx.out.size _)
      have HX10 : Hid (Blk (wr.drew.alloc (.cells #[.string xf, .string xt, .string nx] 9)) wr.heap.size 9 ([xf, xt, nx].map Value.string).toArray) := Lib.hid (Blk.new _ _ _)
      clear hnx hx hiL hxz
      go_wp2_with fail
      refine wp_region_held_drew (S := (fun wQq => Below w7.heap.size w7 wQq)) (by kernel_rfl) ((below_drewN HBx.out 1)) (fun _ => ?_)
      refine wpAnyH_take (i := 0) (v := ?_) rfl (by kernel_rfl) (by kernel_rfl) (by kernel_rfl) (fun _ _ _ h => h) (Or.inl ⟨by rfl, ?_⟩) ((below_drewN HBx.out 1)) ?_
      rotate_left
      · intro wS hSw
        go_simp
        try with_reducible rfl
      try simp only [List.getElem_toArray, List.getElem_cons_zero, List.getElem_cons_succ, Act.put, List.setIfInBounds_toArray, List.set_cons_zero, List.set_cons_succ]
      refine wpAnyH_take (i := 1) (v := ?_) rfl (by kernel_rfl) (by kernel_rfl) (by kernel_rfl) (fun _ _ _ h => h) (Or.inl ⟨by rfl, ?_⟩) ((below_drewN HBx.out 1)) ?_
      rotate_left
      · intro wS hSw
        go_simp
        try with_reducible rfl
      try simp only [List.getElem_toArray, List.getElem_cons_zero, List.getElem_cons_succ, Act.put, List.setIfInBounds_toArray, List.set_cons_zero, List.set_cons_succ]
      refine wpAnyH_take (i := 2) (v := ?_) rfl (by kernel_rfl) (by kernel_rfl) (by kernel_rfl) (fun _ _ _ h => h) (Or.inl ⟨by rfl, ?_⟩) ((below_drewN HBx.out 1)) ?_
      rotate_left
      · intro wS hSw
        go_simp
        try with_reducible rfl
      try simp only [List.getElem_toArray, List.getElem_cons_zero, List.getElem_cons_succ, Act.put, List.setIfInBounds_toArray, List.set_cons_zero, List.set_cons_succ]
      refine wpAnyH_take (i := 3) (v := ?_) rfl (by kernel_rfl) (by kernel_rfl) (by kernel_rfl) (fun _ _ _ h => h) (Or.inl ⟨by rfl, ?_⟩) ((below_drewN HBx.out 1)) ?_
      rotate_left
      · intro wS hSw
        go_simp
        try with_reducible rfl
      try simp only [List.getElem_toArray, List.getElem_cons_zero, List.getElem_cons_succ, Act.put, List.setIfInBounds_toArray, List.set_cons_zero, List.set_cons_succ]
      refine wpAnyH_take (i := 4) (v := ?_) rfl (by kernel_rfl) (by kernel_rfl) (by kernel_rfl) (fun _ _ _ h => h) (Or.inl ⟨by rfl, ?_⟩) ((below_drewN HBx.out 1)) ?_
      rotate_left
      · intro wS hSw
        go_simp
        try with_reducible rfl
      try simp only [List.getElem_toArray, List.getElem_cons_zero, List.getElem_cons_succ, Act.put, List.setIfInBounds_toArray, List.set_cons_zero, List.set_cons_succ]
      refine wpAnyH_take (i := 6) (v := ?_) rfl (by kernel_rfl) (by kernel_rfl) (by kernel_rfl) (fun _ _ _ h => h) (Or.inl ⟨by rfl, ?_⟩) ((below_drewN HBx.out 1)) ?_
      rotate_left
      · intro wS hSw
        go_simp
        try with_reducible rfl
      try simp only [List.getElem_toArray, List.getElem_cons_zero, List.getElem_cons_succ, Act.put, List.setIfInBounds_toArray, List.set_cons_zero, List.set_cons_succ]
      refine wpAnyH_take (i := 7) (v := ?_) rfl (by kernel_rfl) (by kernel_rfl) (by kernel_rfl) (fun _ _ _ h => h) (Or.inl ⟨by rfl, ?_⟩) ((below_drewN HBx.out 1)) ?_
      rotate_left
      · intro wS hSw
        go_simp
        try with_reducible rfl
      try simp only [List.getElem_toArray, List.getElem_cons_zero, List.getElem_cons_succ, Act.put, List.setIfInBounds_toArray, List.set_cons_zero, List.set_cons_succ]
      refine wpAnyH_take (i := 8) (v := ?_) rfl (by kernel_rfl) (by kernel_rfl) (by kernel_rfl) (fun _ _ _ h => h) (Or.inl ⟨by rfl, ?_⟩) ((below_drewN HBx.out 1)) ?_
      rotate_left
      · intro wS hSw
        go_simp
        try with_reducible rfl
      try simp only [List.getElem_toArray, List.getElem_cons_zero, List.getElem_cons_succ, Act.put, List.setIfInBounds_toArray, List.set_cons_zero, List.set_cons_succ]
      refine wpAnyH_take (i := 9) (v := ?_) rfl (by kernel_rfl) (by kernel_rfl) (by kernel_rfl) (fun _ _ _ h => h) (Or.inl ⟨by rfl, ?_⟩) ((below_drewN HBx.out 1)) ?_
      rotate_left
      · intro wS hSw
        go_simp
        try with_reducible rfl
      try simp only [List.getElem_toArray, List.getElem_cons_zero, List.getElem_cons_succ, Act.put, List.setIfInBounds_toArray, List.set_cons_zero, List.set_cons_succ]
      refine wpAnyH_take (i := 11) (v := ?_) rfl (by kernel_rfl) (by kernel_rfl) (by kernel_rfl) (fun _ _ _ h => h) (Or.inl ⟨by rfl, ?_⟩) ((below_drewN HBx.out 1)) ?_
      rotate_left
      · intro wS hSw
        go_simp
        try with_reducible rfl
      try simp only [List.getElem_toArray, List.getElem_cons_zero, List.getElem_cons_succ, Act.put, List.setIfInBounds_toArray, List.set_cons_zero, List.set_cons_succ]
      refine wpAnyH_take (i := 12) (v := ?_) rfl (by kernel_rfl) (by kernel_rfl) (by kernel_rfl) (fun _ _ _ h => h) (Or.inl ⟨by rfl, ?_⟩) ((below_drewN HBx.out 1)) ?_
      rotate_left
      · intro wS hSw
        go_simp
        try with_reducible rfl
      try simp only [List.getElem_toArray, List.getElem_cons_zero, List.getElem_cons_succ, Act.put, List.setIfInBounds_toArray, List.set_cons_zero, List.set_cons_succ]
      refine wpAnyH_take (i := 13) (v := ?_) rfl (by kernel_rfl) (by kernel_rfl) (by kernel_rfl) (fun _ _ _ h => h) (Or.inl ⟨by rfl, ?_⟩) ((below_drewN HBx.out 1)) ?_
      rotate_left
      · intro wS hSw
        go_simp
        try with_reducible rfl
      try simp only [List.getElem_toArray, List.getElem_cons_zero, List.getElem_cons_succ, Act.put, List.setIfInBounds_toArray, List.set_cons_zero, List.set_cons_succ]
      refine wpAnyH_take (i := 14) (v := ?_) rfl (by kernel_rfl) (by kernel_rfl) (by kernel_rfl) (fun _ _ _ h => h) (Or.inl ⟨by rfl, ?_⟩) ((below_drewN HBx.out 1)) ?_
      rotate_left
      · intro wS hSw
        go_simp
        try with_reducible rfl
      try simp only [List.getElem_toArray, List.getElem_cons_zero, List.getElem_cons_succ, Act.put, List.setIfInBounds_toArray, List.set_cons_zero, List.set_cons_succ]
      refine wpAnyH_take (i := 5) (v := ?_) rfl (by kernel_rfl) (by kernel_rfl) (by kernel_rfl) (fun _ _ _ h => h) (Or.inl ⟨by rfl, ?_⟩) ((below_drewN HBx.out 1)) ?_
      rotate_left
      · intro wS hSw
        have hcv := (HCELL.out _ hSw).1
        go_simp
        try with_reducible rfl
      try simp only [List.getElem_toArray, List.getElem_cons_zero, List.getElem_cons_succ, Act.put, List.setIfInBounds_toArray, List.set_cons_zero, List.set_cons_succ]
      refine wpAnyH_take (i := 10) (v := ?_) rfl (by kernel_rfl) (by kernel_rfl) (by kernel_rfl) (fun _ _ _ h => h) (Or.inl ⟨by rfl, ?_⟩) ((below_drewN HBx.out 1)) ?_
      rotate_left
      · intro wS hSw
        have hcv := (HCELL.out _ hSw).2
        go_simp
        try with_reducible rfl
      try simp only [List.getElem_toArray, List.getElem_cons_zero, List.getElem_cons_succ, Act.put, List.setIfInBounds_toArray, List.set_cons_zero, List.set_cons_succ]
      refine wpAnyH_take (i := 15) (v := ?_) rfl (by kernel_rfl) (by kernel_rfl) (by kernel_rfl) (fun _ _ _ h => h) (Or.inl ⟨by rfl, ?_⟩) ((below_drewN HBx.out 1)) ?_
      rotate_left
      · intro wS hSw
        have hcv := (HCELL.out _ hSw).1
        go_simp
        try with_reducible rfl
      try simp only [List.getElem_toArray, List.getElem_cons_zero, List.getElem_cons_succ, Act.put, List.setIfInBounds_toArray, List.set_cons_zero, List.set_cons_succ]
      refine wpAnyH_ready (rs := [16]) (by kernel_rfl) (by simp) ?_
      refine AllReadyH.cons rfl (fun K hK => ?_) AllReadyH.nil
      go_simp
      refine (HNX.out _).mono ?_
      rintro e w9 ⟨rfl, rfl⟩
      refine hK.out _ _ (below_drewN HBx.out 1) (fun _ => ?_)
      clear hK K
      try simp only [List.getElem_toArray, List.getElem_cons_zero, List.getElem_cons_succ, Act.put, List.setIfInBounds_toArray, List.set_cons_zero, List.set_cons_succ]
      refine wpAnyH_ready (rs := [17]) (by kernel_rfl) (by simp) ?_
      refine AllReadyH.cons rfl (fun K hK => ?_) AllReadyH.nil
      go_simp
      refine hK.out _ _ HB10.out (fun _ => ?_)
      clear hK K
      try simp only [List.getElem_toArray, List.getElem_cons_zero, List.getElem_cons_succ, Act.put, List.setIfInBounds_toArray, List.set_cons_zero, List.set_cons_succ]
      refine wpAnyH_ready (rs := [18]) (by kernel_rfl) (by simp) ?_
      refine AllReadyH.cons rfl (fun K hK => ?_) AllReadyH.nil
      refine wp_appT (.tmp 52) (.tmp 69) rfl w7.heap.size A9 k9 c9 T rfl HO10.out (wr.heap.size + 1) (some ⟨wr.heap.size, 0, none⟩) 3 3 [xf, xt, nx] rfl rfl (Rd.blk HX10.out) (by omega) HB10.out.size ?_
      intro A11 c11 w11 ho11 hg11 hb11
      have HB11 := Lib.hid (HB10.out.trans hb11)
      have HO11 := Lib.hid ho11
      clear ho11 hg11 hb11
      refine hK.out _ _ HB11.out (fun _ => ?_)
      clear hK K
      try simp only [List.getElem_toArray, List.getElem_cons_zero, List.getElem_cons_succ, Act.put, List.setIfInBounds_toArray, List.set_cons_zero, List.set_cons_succ]
      refine wpAnyH_take (i := 19) (v := ?_) rfl (by kernel_rfl) (by kernel_rfl) (by kernel_rfl) (fun _ _ _ h => h) (Or.inl ⟨by rfl, ?_⟩) HB11.out ?_
      rotate_left
      · intro wS hSw
        go_simp
        try with_reducible rfl
      try simp only [List.getElem_toArray, List.getElem_cons_zero, List.getElem_cons_succ, Act.put, List.setIfInBounds_toArray, List.set_cons_zero, List.set_cons_succ]
      refine wpAnyH_done (by kernel_rfl) ?_ _
      go_wp2
      go_roundw
      case rel => exact ⟨i + 1, k9 + 3, c11, A11, T ++ [xf, xt, nx], by go_num, rfl, by omega, by omega, HO11, HB11⟩
      case measure => first | (simp [Go.RowKit.intOf]; done) | (simp [Go.RowKit.intOf]; omega)
    · skip
      have HOT12 : Hid (OwnT (wr.alloc (.cells #[.string f, .string t] 9)) w7.heap.size A9 k9 c9 T) := Lib.hid (HOT.out.via ((Below.refl _ _).alloc (Nat.le_refl _) _))
      have HB12 : Hid (Below w7.heap.size w7 (wr.alloc (.cells #[.string f, .string t] 9))) := Lib.hid (HBx.out.alloc HBx.out.size _)
      have HX12 : Hid (Blk (wr.alloc (.cells #[.string f, .string t] 9)) wr.heap.size 9 ([f, t].map Value.string).toArray) := Lib.hid (Blk.new _ _ _)
      have d0 := (HKS7.out.via HBx.out).ss.c0
      have d1 := (HKS7.out.via HBx.out).ss.c1
      have hin : i = n := by omega
      clear hlt
      go_wp2_with (at_builtin; go_loud (refine wpList_appT rfl (.tmp 71) (.tmp 76) rfl w7.heap.size A9 k9 c9 T rfl HOT12.out (wr.heap.size + 1) (some ⟨wr.heap.size, 0, none⟩) 2 2 [f, t] rfl rfl (Rd.blk HX12.out) (by omega) HB12.out.size ?_; intro A14 c14 w14 ho14 hg14 hb14; have HO14 := Lib.hid ho14; have HKS14 := Lib.hid (HKS7.out.via (HB12.out.trans hb14)); clear ho14 hg14 hb14))
      obtain ⟨T2, hT2⟩ : ∃ T2, T ++ [f, t] = T2 := ⟨_, rfl⟩
      rw [hT2] at HO14
      obtain ⟨k2, hk2⟩ : ∃ k2, k9 + 2 = k2 := ⟨_, rfl⟩
      rw [hk2] at HO14
      simp only [hk2]
      have hk2b : k2 ≤ 300 := by omega
      clear hT2 hk2 d0 d1 HOT12 HB12 HX12 HOT HBx
      go_loopw [11] (fun x11 wx => ∃ i : Nat, x11 = .int .i64 i ∧ i ≤ k2 ∧ Hid (Below w14.heap.size w14 wx)) (fun x11 _ => k2 - (Go.RowKit.intOf x11).toNat)
      case atStart => exact ⟨0, rfl, Nat.zero_le _, Lib.hid (Below.refl _ _)⟩
      case round =>
        obtain ⟨i, rfl, hik, HBy⟩ := hrel
        by_cases hlt : i < k2
        · have hiT : i < T2.length := by rw [HO14.out.len]; exact hlt
          obtain ⟨gT, rfl, hgT1, hgT2, hdel⟩ := HO14.out.at hiT
          clear hdel
          have HCE : Hid (∀ w, Below w14.heap.size w14 w → w.cell? ⟨gT, i, none⟩ = some (.string T2[i])) := Lib.hid (fun w hw => by
            obtain ⟨g', e, _, _, h1⟩ := (HO14.out.via hw).at hiT
            injection e with e
            injection e with e
            subst e
            exact h1)
          generalize T2[i] = a at HCE
          obtain ⟨r1, hr1⟩ : ∃ r, Ord.cov L a = r := ⟨_, rfl⟩
          obtain ⟨r2, hr2⟩ : ∃ r, Ord.inn f t a = r := ⟨_, rfl⟩
          have HCA : Hid (∀ w, SS W f t w → _) := Lib.hid (fun w (hm : SS W f t w) => HC.out a w hm)
          have HINa := Lib.hid (fun w => HIN.out a w)
          have HCU : Hid (∀ w, KS W f t Au nu cu Ou Am nm cm Om w → _) := Lib.hid (fun w (hm : KS W f t Au nu cu Ou Am nm cm Om w) => HCO.out a w _ _ _ _ hm.u (by omega))
          have HCM : Hid (∀ w, KS W f t Au nu cu Ou Am nm cm Om w → _) := Lib.hid (fun w (hm : KS W f t Au nu cu Ou Am nm cm Om w) => HCO.out a w _ _ _ _ hm.m (by omega))
          rw [HKU.out.2 a, hr1] at HCU
          rw [HKM.out.2 a, hr1, hr2] at HCM
          rw [hr1] at HCA
          rw [hr2] at HINa
          have hce := HCE.out wr HBy.out
          clear hr1 hr2 hiT
          cases r1
          · simp only [Bool.false_and] at HCM
            go_upto_region 17 with (go_at_call 25; refine (HCA.out wr (HKS14.out.via HBy.out).ss).mono ?_; rintro e w15 ⟨rfl, hb15⟩; have HB15 := Lib.hid (HBy.out.via hb15); clear hb15)
            go_wp2_with fail
            refine wp_region_held_drew (S := (fun wQq => Below w14.heap.size w14 wQq)) (by kernel_rfl) ((below_drewN HB15.out 1)) (fun _ => ?_)
            refine wpAnyH_take (i := 0) (v := ?_) rfl (by kernel_rfl) (by kernel_rfl) (by kernel_rfl) (fun _ _ _ h => h) (Or.inl ⟨by rfl, ?_⟩) ((below_drewN HB15.out 1)) ?_
            rotate_left
            · intro wS hSw
              go_simp
              try with_reducible rfl
            try simp only [List.getElem_toArray, List.getElem_cons_zero, List.getElem_cons_succ, Act.put, List.setIfInBounds_toArray, List.set_cons_zero, List.set_cons_succ]
            refine wpAnyH_take (i := 1) (v := ?_) rfl (by kernel_rfl) (by kernel_rfl) (by kernel_rfl) (fun _ _ _ h => h) (Or.inl ⟨by rfl, ?_⟩) ((below_drewN HB15.out 1)) ?_
            rotate_left
            · intro wS hSw
              go_simp
              try with_reducible rfl
            try simp only [List.getElem_toArray, List.getElem_cons_zero, List.getElem_cons_succ, Act.put, List.setIfInBounds_toArray, List.set_cons_zero, List.set_cons_succ]
            refine wpAnyH_take (i := 2) (v := ?_) rfl (by kernel_rfl) (by kernel_rfl) (by kernel_rfl) (fun _ _ _ h => h) (Or.inl ⟨by rfl, ?_⟩) ((below_drewN HB15.out 1)) ?_
            rotate_left
            · intro wS hSw
              go_simp
              try with_reducible rfl
            try simp only [List.getElem_toArray, List.getElem_cons_zero, List.getElem_cons_succ, Act.put, List.setIfInBounds_toArray, List.set_cons_zero, List.set_cons_succ]
            refine wpAnyH_take (i := 3) (v := ?_) rfl (by kernel_rfl) (by kernel_rfl) (by kernel_rfl) (fun _ _ _ h => h) (Or.inl ⟨by rfl, ?_⟩) ((below_drewN HB15.out 1)) ?_
            rotate_left
            · intro wS hSw
              go_simp
              try with_reducible rfl
            try simp only [List.getElem_toArray, List.getElem_cons_zero, List.getElem_cons_succ, Act.put, List.setIfInBounds_toArray, List.set_cons_zero, List.set_cons_succ]
            refine wpAnyH_take (i := 6) (v := ?_) rfl (by kernel_rfl) (by kernel_rfl) (by kernel_rfl) (fun _ _ _ h => h) (Or.inl ⟨by rfl, ?_⟩) ((below_drewN HB15.out 1)) ?_
            rotate_left
            · intro wS hSw
              go_simp
              try with_reducible rfl
            try simp only [List.getElem_toArray, List.getElem_cons_zero, List.getElem_cons_succ, Act.put, List.setIfInBounds_toArray, List.set_cons_zero, List.set_cons_succ]
            refine wpAnyH_take (i := 4) (v := ?_) rfl (by kernel_rfl) (by kernel_rfl) (by kernel_rfl) (fun _ _ _ h => h) (Or.inl ⟨by rfl, ?_⟩) ((below_drewN HB15.out 1)) ?_
            rotate_left
            · intro wS hSw
              have hcv := HCE.out _ hSw
              go_simp
              try with_reducible rfl
            try simp only [List.getElem_toArray, List.getElem_cons_zero, List.getElem_cons_succ, Act.put, List.setIfInBounds_toArray, List.set_cons_zero, List.set_cons_succ]
            refine wpAnyH_ready (rs := [5]) (by kernel_rfl) (by simp) ?_
            refine AllReadyH.cons rfl (fun K hK => ?_) AllReadyH.nil
            go_simp
            refine (HCU.out _ (HKS14.out.via (below_drewN HB15.out 1))).mono ?_
            rintro e w16 ⟨rfl, hb16⟩
            have HB16 := Lib.hid ((below_drewN HB15.out 1).via hb16)
            clear hb16
            refine hK.out _ _ HB16.out (fun _ => ?_)
            clear hK K
            try simp only [List.getElem_toArray, List.getElem_cons_zero, List.getElem_cons_succ, Act.put, List.setIfInBounds_toArray, List.set_cons_zero, List.set_cons_succ]
            refine wpAnyH_take (i := 7) (v := ?_) rfl (by kernel_rfl) (by kernel_rfl) (by kernel_rfl) (fun _ _ _ h => h) (Or.inl ⟨by rfl, ?_⟩) HB16.out ?_
            rotate_left
            · intro wS hSw
              go_simp
              try with_reducible rfl
            try simp only [List.getElem_toArray, List.getElem_cons_zero, List.getElem_cons_succ, Act.put, List.setIfInBounds_toArray, List.set_cons_zero, List.set_cons_succ]
            refine wpAnyH_take (i := 8) (v := ?_) rfl (by kernel_rfl) (by kernel_rfl) (by kernel_rfl) (fun _ _ _ h => h) (Or.inl ⟨by rfl, ?_⟩) HB16.out ?_
            rotate_left
            · intro wS hSw
              go_simp
              try with_reducible rfl
            try simp only [List.getElem_toArray, List.getElem_cons_zero, List.getElem_cons_succ, Act.put, List.setIfInBounds_toArray, List.set_cons_zero, List.set_cons_succ]
            refine wpAnyH_take (i := 9) (v := ?_) rfl (by kernel_rfl) (by kernel_rfl) (by kernel_rfl) (fun _ _ _ h => h) (Or.inl ⟨by rfl, ?_⟩) HB16.out ?_
            rotate_left
            · intro wS hSw
              go_simp
              try with_reducible rfl
            try simp only [List.getElem_toArray, List.getElem_cons_zero, List.getElem_cons_succ, Act.put, List.setIfInBounds_toArray, List.set_cons_zero, List.set_cons_succ]
            refine wpAnyH_take (i := 10) (v := ?_) rfl (by kernel_rfl) (by kernel_rfl) (by kernel_rfl) (fun _ _ _ h => h) (Or.inl ⟨by rfl, ?_⟩) HB16.out ?_
            rotate_left
            · intro wS hSw
              go_simp
              try with_reducible rfl
            try simp only [List.getElem_toArray, List.getElem_cons_zero, List.getElem_cons_succ, Act.put, List.setIfInBounds_toArray, List.set_cons_zero, List.set_cons_succ]
            refine wpAnyH_take (i := 11) (v := ?_) rfl (by kernel_rfl) (by kernel_rfl) (by kernel_rfl) (fun _ _ _ h => h) (Or.inl ⟨by rfl, ?_⟩) HB16.out ?_
            rotate_left
            · intro wS hSw
              go_simp
              try with_reducible rfl
            try simp only [List.getElem_toArray, List.getElem_cons_zero, List.getElem_cons_succ, Act.put, List.setIfInBounds_toArray, List.set_cons_zero, List.set_cons_succ]
            refine wpAnyH_take (i := 12) (v := ?_) rfl (by kernel_rfl) (by kernel_rfl) (by kernel_rfl) (fun _ _ _ h => h) (Or.inl ⟨by rfl, ?_⟩) HB16.out ?_
            rotate_left
            · intro wS hSw
              go_simp
              try with_reducible rfl
            try simp only [List.getElem_toArray, List.getElem_cons_zero, List.getElem_cons_succ, Act.put, List.setIfInBounds_toArray, List.set_cons_zero, List.set_cons_succ]
            refine wpAnyH_take (i := 15) (v := ?_) rfl (by kernel_rfl) (by kernel_rfl) (by kernel_rfl) (fun _ _ _ h => h) (Or.inl ⟨by rfl, ?_⟩) HB16.out ?_
            rotate_left
            · intro wS hSw
              go_simp
              try with_reducible rfl
            try simp only [List.getElem_toArray, List.getElem_cons_zero, List.getElem_cons_succ, Act.put, List.setIfInBounds_toArray, List.set_cons_zero, List.set_cons_succ]
            refine wpAnyH_take (i := 13) (v := ?_) rfl (by kernel_rfl) (by kernel_rfl) (by kernel_rfl) (fun _ _ _ h => h) (Or.inl ⟨by rfl, ?_⟩) HB16.out ?_
            rotate_left
            · intro wS hSw
              have hcv := HCE.out _ hSw
              go_simp
              try with_reducible rfl
            try simp only [List.getElem_toArray, List.getElem_cons_zero, List.getElem_cons_succ, Act.put, List.setIfInBounds_toArray, List.set_cons_zero, List.set_cons_succ]
            refine wpAnyH_ready (rs := [14]) (by kernel_rfl) (by simp) ?_
            refine AllReadyH.cons rfl (fun K hK => ?_) AllReadyH.nil
            go_simp
            refine (HCM.out _ (HKS14.out.via HB16.out)).mono ?_
            rintro e w17 ⟨rfl, hb17⟩
            have HB17 := Lib.hid (HB16.out.via hb17)
            clear hb17
            refine hK.out _ _ HB17.out (fun _ => ?_)
            clear hK K
            try simp only [List.getElem_toArray, List.getElem_cons_zero, List.getElem_cons_succ, Act.put, List.setIfInBounds_toArray, List.set_cons_zero, List.set_cons_succ]
            refine wpAnyH_take (i := 16) (v := ?_) rfl (by kernel_rfl) (by kernel_rfl) (by kernel_rfl) (fun _ _ _ h => h) (Or.inl ⟨by rfl, ?_⟩) HB17.out ?_
            rotate_left
            · intro wS hSw
              go_simp
              try with_reducible rfl
            try simp only [List.getElem_toArray, List.getElem_cons_zero, List.getElem_cons_succ, Act.put, List.setIfInBounds_toArray, List.set_cons_zero, List.set_cons_succ]
            refine wpAnyH_take (i := 17) (v := undef) rfl (by kernel_rfl) (by kernel_rfl) (by kernel_rfl) (fun _ _ _ h => h) (Or.inr ⟨by rfl, rfl⟩) HB17.out ?_
            try simp only [List.getElem_toArray, List.getElem_cons_zero, List.getElem_cons_succ, Act.put, List.setIfInBounds_toArray, List.set_cons_zero, List.set_cons_succ]
            refine wpAnyH_take (i := 18) (v := undef) rfl (by kernel_rfl) (by kernel_rfl) (by kernel_rfl) (fun _ _ _ h => h) (Or.inr ⟨by rfl, rfl⟩) HB17.out ?_
            try simp only [List.getElem_toArray, List.getElem_cons_zero, List.getElem_cons_succ, Act.put, List.setIfInBounds_toArray, List.set_cons_zero, List.set_cons_succ]
            refine wpAnyH_take (i := 19) (v := undef) rfl (by kernel_rfl) (by kernel_rfl) (by kernel_rfl) (fun _ _ _ h => h) (Or.inr ⟨by rfl, rfl⟩) HB17.out ?_
            try simp only [List.getElem_toArray, List.getElem_cons_zero, List.getElem_cons_succ, Act.put, List.setIfInBounds_toArray, List.set_cons_zero, List.set_cons_succ]
            refine wpAnyH_take (i := 20) (v := undef) rfl (by kernel_rfl) (by kernel_rfl) (by kernel_rfl) (fun _ _ _ h => h) (Or.inr ⟨by rfl, rfl⟩) HB17.out ?_
            try simp only [List.getElem_toArray, List.getElem_cons_zero, List.getElem_cons_succ, Act.put, List.setIfInBounds_toArray, List.set_cons_zero, List.set_cons_succ]
            refine wpAnyH_take (i := 21) (v := undef) rfl (by kernel_rfl) (by kernel_rfl) (by kernel_rfl) (fun _ _ _ h => h) (Or.inr ⟨by rfl, rfl⟩) HB17.out ?_
            try simp only [List.getElem_toArray, List.getElem_cons_zero, List.getElem_cons_succ, Act.put, List.setIfInBounds_toArray, List.set_cons_zero, List.set_cons_succ]
            refine wpAnyH_take (i := 22) (v := undef) rfl (by kernel_rfl) (by kernel_rfl) (by kernel_rfl) (fun _ _ _ h => h) (Or.inr ⟨by rfl, rfl⟩) HB17.out ?_
            try simp only [List.getElem_toArray, List.getElem_cons_zero, List.getElem_cons_succ, Act.put, List.setIfInBounds_toArray, List.set_cons_zero, List.set_cons_succ]
            refine wpAnyH_take (i := 23) (v := undef) rfl (by kernel_rfl) (by kernel_rfl) (by kernel_rfl) (fun _ _ _ h => h) (Or.inr ⟨by rfl, rfl⟩) HB17.out ?_
            try simp only [List.getElem_toArray, List.getElem_cons_zero, List.getElem_cons_succ, Act.put, List.setIfInBounds_toArray, List.set_cons_zero, List.set_cons_succ]
            refine wpAnyH_take (i := 24) (v := ?_) rfl (by kernel_rfl) (by kernel_rfl) (by kernel_rfl) (fun _ _ _ h => h) (Or.inl ⟨by rfl, ?_⟩) HB17.out ?_
            rotate_left
            · intro wS hSw
              go_simp
              try with_reducible rfl
            try simp only [List.getElem_toArray, List.getElem_cons_zero, List.getElem_cons_succ, Act.put, List.setIfInBounds_toArray, List.set_cons_zero, List.set_cons_succ]
            refine wpAnyH_take (i := 25) (v := ?_) rfl (by kernel_rfl) (by kernel_rfl) (by kernel_rfl) (fun _ _ _ h => h) (Or.inl ⟨by rfl, ?_⟩) HB17.out ?_
            rotate_left
            · intro wS hSw
              go_simp
              try with_reducible rfl
            try simp only [List.getElem_toArray, List.getElem_cons_zero, List.getElem_cons_succ, Act.put, List.setIfInBounds_toArray, List.set_cons_zero, List.set_cons_succ]
            refine wpAnyH_take (i := 26) (v := ?_) rfl (by kernel_rfl) (by kernel_rfl) (by kernel_rfl) (fun _ _ _ h => h) (Or.inl ⟨by rfl, ?_⟩) HB17.out ?_
            rotate_left
            · intro wS hSw
              go_simp
              try with_reducible rfl
            try simp only [List.getElem_toArray, List.getElem_cons_zero, List.getElem_cons_succ, Act.put, List.setIfInBounds_toArray, List.set_cons_zero, List.set_cons_succ]
            refine wpAnyH_done (by kernel_rfl) ?_ _
            go_wp2
            go_roundw
            case rel => exact ⟨i + 1, by go_num, by omega, HB17⟩
            case measure => first | (simp [Go.RowKit.intOf]; done) | (simp [Go.RowKit.intOf]; omega)
          · simp only [Bool.true_and] at HCM
            go_upto_region 17 with (go_at_call 25; refine (HCA.out wr (HKS14.out.via HBy.out).ss).mono ?_; rintro e w15 ⟨rfl, hb15⟩; have HB15 := Lib.hid (HBy.out.via hb15); clear hb15)
            cases r2
            · go_wp2_with fail
              refine wp_region_held_drew (S := (fun wQq => Below w14.heap.size w14 wQq)) (by kernel_rfl) ((below_drewN HB15.out 1)) (fun _ => ?_)
              refine wpAnyH_take (i := 0) (v := ?_) rfl (by kernel_rfl) (by kernel_rfl) (by kernel_rfl) (fun _ _ _ h => h) (Or.inl ⟨by rfl, ?_⟩) ((below_drewN HB15.out 1)) ?_
              rotate_left
              · intro wS hSw
                go_simp
                try with_reducible rfl
              try simp only [List.getElem_toArray, List.getElem_cons_zero, List.getElem_cons_succ, Act.put, List.setIfInBounds_toArray, List.set_cons_zero, List.set_cons_succ]
              refine wpAnyH_take (i := 1) (v := ?_) rfl (by kernel_rfl) (by kernel_rfl) (by kernel_rfl) (fun _ _ _ h => h) (Or.inl ⟨by rfl, ?_⟩) ((below_drewN HB15.out 1)) ?_
              rotate_left
              · intro wS hSw
                go_simp
                try with_reducible rfl
              try simp only [List.getElem_toArray, List.getElem_cons_zero, List.getElem_cons_succ, Act.put, List.setIfInBounds_toArray, List.set_cons_zero, List.set_cons_succ]
              refine wpAnyH_take (i := 2) (v := ?_) rfl (by kernel_rfl) (by kernel_rfl) (by kernel_rfl) (fun _ _ _ h => h) (Or.inl ⟨by rfl, ?_⟩) ((below_drewN HB15.out 1)) ?_
              rotate_left
              · intro wS hSw
                go_simp
                try with_reducible rfl
              try simp only [List.getElem_toArray, List.getElem_cons_zero, List.getElem_cons_succ, Act.put, List.setIfInBounds_toArray, List.set_cons_zero, List.set_cons_succ]
              refine wpAnyH_take (i := 3) (v := ?_) rfl (by kernel_rfl) (by kernel_rfl) (by kernel_rfl) (fun _ _ _ h => h) (Or.inl ⟨by rfl, ?_⟩) ((below_drewN HB15.out 1)) ?_
              rotate_left
              · intro wS hSw
                go_simp
                try with_reducible rfl
              try simp only [List.getElem_toArray, List.getElem_cons_zero, List.getElem_cons_succ, Act.put, List.setIfInBounds_toArray, List.set_cons_zero, List.set_cons_succ]
              refine wpAnyH_take (i := 6) (v := ?_) rfl (by kernel_rfl) (by kernel_rfl) (by kernel_rfl) (fun _ _ _ h => h) (Or.inl ⟨by rfl, ?_⟩) ((below_drewN HB15.out 1)) ?_
              rotate_left
              · intro wS hSw
                go_simp
                try with_reducible rfl
              try simp only [List.getElem_toArray, List.getElem_cons_zero, List.getElem_cons_succ, Act.put, List.setIfInBounds_toArray, List.set_cons_zero, List.set_cons_succ]
              refine wpAnyH_take (i := 4) (v := ?_) rfl (by kernel_rfl) (by kernel_rfl) (by kernel_rfl) (fun _ _ _ h => h) (Or.inl ⟨by rfl, ?_⟩) ((below_drewN HB15.out 1)) ?_
              rotate_left
              · intro wS hSw
                have hcv := HCE.out _ hSw
                go_simp
                try with_reducible rfl
              try simp only [List.getElem_toArray, List.getElem_cons_zero, List.getElem_cons_succ, Act.put, List.setIfInBounds_toArray, List.set_cons_zero, List.set_cons_succ]
              refine wpAnyH_ready (rs := [5]) (by kernel_rfl) (by simp) ?_
              refine AllReadyH.cons rfl (fun K hK => ?_) AllReadyH.nil
              go_simp
              refine (HCU.out _ (HKS14.out.via (below_drewN HB15.out 1))).mono ?_
              rintro e w16 ⟨rfl, hb16⟩
              have HB16 := Lib.hid ((below_drewN HB15.out 1).via hb16)
              clear hb16
              refine hK.out _ _ HB16.out (fun _ => ?_)
              clear hK K
              try simp only [List.getElem_toArray, List.getElem_cons_zero, List.getElem_cons_succ, Act.put, List.setIfInBounds_toArray, List.set_cons_zero, List.set_cons_succ]
              refine wpAnyH_take (i := 7) (v := ?_) rfl (by kernel_rfl) (by kernel_rfl) (by kernel_rfl) (fun _ _ _ h => h) (Or.inl ⟨by rfl, ?_⟩) HB16.out ?_
              rotate_left
              · intro wS hSw
                go_simp
                try with_reducible rfl
              try simp only [List.getElem_toArray, List.getElem_cons_zero, List.getElem_cons_succ, Act.put, List.setIfInBounds_toArray, List.set_cons_zero, List.set_cons_succ]
              refine wpAnyH_take (i := 8) (v := ?_) rfl (by kernel_rfl) (by kernel_rfl) (by kernel_rfl) (fun _ _ _ h => h) (Or.inl ⟨by rfl, ?_⟩) HB16.out ?_
              rotate_left
              · intro wS hSw
                go_simp
                try with_reducible rfl
              try simp only [List.getElem_toArray, List.getElem_cons_zero, List.getElem_cons_succ, Act.put, List.setIfInBounds_toArray, List.set_cons_zero, List.set_cons_succ]
              refine wpAnyH_take (i := 9) (v := ?_) rfl (by kernel_rfl) (by kernel_rfl) (by kernel_rfl) (fun _ _ _ h => h) (Or.inl ⟨by rfl, ?_⟩) HB16.out ?_
              rotate_left
              · intro wS hSw
                go_simp
                try with_reducible rfl
              try simp only [List.getElem_toArray, List.getElem_cons_zero, List.getElem_cons_succ, Act.put, List.setIfInBounds_toArray, List.set_cons_zero, List.set_cons_succ]
              refine wpAnyH_take (i := 10) (v := ?_) rfl (by kernel_rfl) (by kernel_rfl) (by kernel_rfl) (fun _ _ _ h => h) (Or.inl ⟨by rfl, ?_⟩) HB16.out ?_
              rotate_left
              · intro wS hSw
                go_simp
                try with_reducible rfl
              try simp only [List.getElem_toArray, List.getElem_cons_zero, List.getElem_cons_succ, Act.put, List.setIfInBounds_toArray, List.set_cons_zero, List.set_cons_succ]
              refine wpAnyH_take (i := 11) (v := ?_) rfl (by kernel_rfl) (by kernel_rfl) (by kernel_rfl) (fun _ _ _ h => h) (Or.inl ⟨by rfl, ?_⟩) HB16.out ?_
              rotate_left
              · intro wS hSw
                go_simp
                try with_reducible rfl
              try simp only [List.getElem_toArray, List.getElem_cons_zero, List.getElem_cons_succ, Act.put, List.setIfInBounds_toArray, List.set_cons_zero, List.set_cons_succ]
              refine wpAnyH_take (i := 12) (v := ?_) rfl (by kernel_rfl) (by kernel_rfl) (by kernel_rfl) (fun _ _ _ h => h) (Or.inl ⟨by rfl, ?_⟩) HB16.out ?_
              rotate_left
              · intro wS hSw
                go_simp
                try with_reducible rfl
              try simp only [List.getElem_toArray, List.getElem_cons_zero, List.getElem_cons_succ, Act.put, List.setIfInBounds_toArray, List.set_cons_zero, List.set_cons_succ]
              refine wpAnyH_take (i := 15) (v := ?_) rfl (by kernel_rfl) (by kernel_rfl) (by kernel_rfl) (fun _ _ _ h => h) (Or.inl ⟨by rfl, ?_⟩) HB16.out ?_
              rotate_left
              · intro wS hSw
                go_simp
                try with_reducible rfl
              try simp only [List.getElem_toArray, List.getElem_cons_zero, List.getElem_cons_succ, Act.put, List.setIfInBounds_toArray, List.set_cons_zero, List.set_cons_succ]
              refine wpAnyH_take (i := 13) (v := ?_) rfl (by kernel_rfl) (by kernel_rfl) (by kernel_rfl) (fun _ _ _ h => h) (Or.inl ⟨by rfl, ?_⟩) HB16.out ?_
              rotate_left
              · intro wS hSw
                have hcv := HCE.out _ hSw
                go_simp
                try with_reducible rfl
              try simp only [List.getElem_toArray, List.getElem_cons_zero, List.getElem_cons_succ, Act.put, List.setIfInBounds_toArray, List.set_cons_zero, List.set_cons_succ]
              refine wpAnyH_ready (rs := [14]) (by kernel_rfl) (by simp) ?_
              refine AllReadyH.cons rfl (fun K hK => ?_) AllReadyH.nil
              go_simp
              refine (HCM.out _ (HKS14.out.via HB16.out)).mono ?_
              rintro e w17 ⟨rfl, hb17⟩
              have HB17 := Lib.hid (HB16.out.via hb17)
              clear hb17
              refine hK.out _ _ HB17.out (fun _ => ?_)
              clear hK K
              try simp only [List.getElem_toArray, List.getElem_cons_zero, List.getElem_cons_succ, Act.put, List.setIfInBounds_toArray, List.set_cons_zero, List.set_cons_succ]
              refine wpAnyH_take (i := 16) (v := ?_) rfl (by kernel_rfl) (by kernel_rfl) (by kernel_rfl) (fun _ _ _ h => h) (Or.inl ⟨by rfl, ?_⟩) HB17.out ?_
              rotate_left
              · intro wS hSw
                go_simp
                try with_reducible rfl
              try simp only [List.getElem_toArray, List.getElem_cons_zero, List.getElem_cons_succ, Act.put, List.setIfInBounds_toArray, List.set_cons_zero, List.set_cons_succ]
              refine wpAnyH_take (i := 18) (v := ?_) rfl (by kernel_rfl) (by kernel_rfl) (by kernel_rfl) (fun _ _ _ h => h) (Or.inl ⟨by rfl, ?_⟩) HB17.out ?_
              rotate_left
              · intro wS hSw
                go_simp
                try with_reducible rfl
              try simp only [List.getElem_toArray, List.getElem_cons_zero, List.getElem_cons_succ, Act.put, List.setIfInBounds_toArray, List.set_cons_zero, List.set_cons_succ]
              refine wpAnyH_take (i := 19) (v := ?_) rfl (by kernel_rfl) (by kernel_rfl) (by kernel_rfl) (fun _ _ _ h => h) (Or.inl ⟨by rfl, ?_⟩) HB17.out ?_
              rotate_left
              · intro wS hSw
                go_simp
                try with_reducible rfl
              try simp only [List.getElem_toArray, List.getElem_cons_zero, List.getElem_cons_succ, Act.put, List.setIfInBounds_toArray, List.set_cons_zero, List.set_cons_succ]
              refine wpAnyH_take (i := 20) (v := ?_) rfl (by kernel_rfl) (by kernel_rfl) (by kernel_rfl) (fun _ _ _ h => h) (Or.inl ⟨by rfl, ?_⟩) HB17.out ?_
              rotate_left
              · intro wS hSw
                go_simp
                try with_reducible rfl
              try simp only [List.getElem_toArray, List.getElem_cons_zero, List.getElem_cons_succ, Act.put, List.setIfInBounds_toArray, List.set_cons_zero, List.set_cons_succ]
              refine wpAnyH_take (i := 17) (v := ?_) rfl (by kernel_rfl) (by kernel_rfl) (by kernel_rfl) (fun _ _ _ h => h) (Or.inl ⟨by rfl, ?_⟩) HB17.out ?_
              rotate_left
              · intro wS hSw
                have hcv := (HKS14.out.via hSw).ss.c0
                have hcv2 := (HKS14.out.via hSw).ss.c1
                go_simp
                try with_reducible rfl
              try simp only [List.getElem_toArray, List.getElem_cons_zero, List.getElem_cons_succ, Act.put, List.setIfInBounds_toArray, List.set_cons_zero, List.set_cons_succ]
              refine wpAnyH_take (i := 21) (v := ?_) rfl (by kernel_rfl) (by kernel_rfl) (by kernel_rfl) (fun _ _ _ h => h) (Or.inl ⟨by rfl, ?_⟩) HB17.out ?_
              rotate_left
              · intro wS hSw
                have hcv := HCE.out _ hSw
                go_simp
                try with_reducible rfl
              try simp only [List.getElem_toArray, List.getElem_cons_zero, List.getElem_cons_succ, Act.put, List.setIfInBounds_toArray, List.set_cons_zero, List.set_cons_succ]
              refine wpAnyH_ready (rs := [22]) (by kernel_rfl) (by simp) ?_
              refine AllReadyH.cons rfl (fun K hK => ?_) AllReadyH.nil
              go_simp
              refine (HINa.out _).mono ?_
              rintro e w18 ⟨rfl, hb18⟩
              have HB18 := Lib.hid (HB17.out.via hb18)
              clear hb18
              refine hK.out _ _ HB18.out (fun _ => ?_)
              clear hK K
              try simp only [List.getElem_toArray, List.getElem_cons_zero, List.getElem_cons_succ, Act.put, List.setIfInBounds_toArray, List.set_cons_zero, List.set_cons_succ]
              refine wpAnyH_take (i := 23) (v := ?_) rfl (by kernel_rfl) (by kernel_rfl) (by kernel_rfl) (fun _ _ _ h => h) (Or.inl ⟨by rfl, ?_⟩) HB18.out ?_
              rotate_left
              · intro wS hSw
                go_simp
                try with_reducible rfl
              try simp only [List.getElem_toArray, List.getElem_cons_zero, List.getElem_cons_succ, Act.put, List.setIfInBounds_toArray, List.set_cons_zero, List.set_cons_succ]
              refine wpAnyH_take (i := 24) (v := ?_) rfl (by kernel_rfl) (by kernel_rfl) (by kernel_rfl) (fun _ _ _ h => h) (Or.inl ⟨by rfl, ?_⟩) HB18.out ?_
              rotate_left
              · intro wS hSw
                go_simp
                try with_reducible rfl
              try simp only [List.getElem_toArray, List.getElem_cons_zero, List.getElem_cons_succ, Act.put, List.setIfInBounds_toArray, List.set_cons_zero, List.set_cons_succ]
              refine wpAnyH_take (i := 25) (v := ?_) rfl (by kernel_rfl) (by kernel_rfl) (by kernel_rfl) (fun _ _ _ h => h) (Or.inl ⟨by rfl, ?_⟩) HB18.out ?_
              rotate_left
              · intro wS hSw
                go_simp
                try with_reducible rfl
              try simp only [List.getElem_toArray, List.getElem_cons_zero, List.getElem_cons_succ, Act.put, List.setIfInBounds_toArray, List.set_cons_zero, List.set_cons_succ]
              refine wpAnyH_take (i := 26) (v := ?_) rfl (by kernel_rfl) (by kernel_rfl) (by kernel_rfl) (fun _ _ _ h => h) (Or.inl ⟨by rfl, ?_⟩) HB18.out ?_
              rotate_left
              · intro wS hSw
                go_simp
                try with_reducible rfl
              try simp only [List.getElem_toArray, List.getElem_cons_zero, List.getElem_cons_succ, Act.put, List.setIfInBounds_toArray, List.set_cons_zero, List.set_cons_succ]
              refine wpAnyH_done (by kernel_rfl) ?_ _
              go_wp2
              go_roundw
              case rel => exact ⟨i + 1, by go_num, by omega, HB18⟩
              case measure => first | (simp [Go.RowKit.intOf]; done) | (simp [Go.RowKit.intOf]; omega)
            · go_wp2_with fail
              refine wp_region_held_drew (S := (fun wQq => Below w14.heap.size w14 wQq)) (by kernel_rfl) ((below_drewN HB15.out 1)) (fun _ => ?_)
              refine wpAnyH_take (i := 0) (v := ?_) rfl (by kernel_rfl) (by kernel_rfl) (by kernel_rfl) (fun _ _ _ h => h) (Or.inl ⟨by rfl, ?_⟩) ((below_drewN HB15.out 1)) ?_
              rotate_left
              · intro wS hSw
                go_simp
                try with_reducible rfl
              try simp only [List.getElem_toArray, List.getElem_cons_zero, List.getElem_cons_succ, Act.put, List.setIfInBounds_toArray, List.set_cons_zero, List.set_cons_succ]
              refine wpAnyH_take (i := 1) (v := ?_) rfl (by kernel_rfl) (by kernel_rfl) (by kernel_rfl) (fun _ _ _ h => h) (Or.inl ⟨by rfl, ?_⟩) ((below_drewN HB15.out 1)) ?_
              rotate_left
              · intro wS hSw
                go_simp
                try with_reducible rfl
              try simp only [List.getElem_toArray, List.getElem_cons_zero, List.getElem_cons_succ, Act.put, List.setIfInBounds_toArray, List.set_cons_zero, List.set_cons_succ]
              refine wpAnyH_take (i := 2) (v := ?_) rfl (by kernel_rfl) (by kernel_rfl) (by kernel_rfl) (fun _ _ _ h => h) (Or.inl ⟨by rfl, ?_⟩) ((below_drewN HB15.out 1)) ?_
              rotate_left
              · intro wS hSw
                go_simp
                try with_reducible rfl
              try simp only [List.getElem_toArray, List.getElem_cons_zero, List.getElem_cons_succ, Act.put, List.setIfInBounds_toArray, List.set_cons_zero, List.set_cons_succ]
              refine wpAnyH_take (i := 3) (v := ?_) rfl (by kernel_rfl) (by kernel_rfl) (by kernel_rfl) (fun _ _ _ h => h) (Or.inl ⟨by rfl, ?_⟩) ((below_drewN HB15.out 1)) ?_
              rotate_left
              · intro wS hSw
                go_simp
                try with_reducible rfl
              try simp only [List.getElem_toArray, List.getElem_cons_zero, List.getElem_cons_succ, Act.put, List.setIfInBounds_toArray, List.set_cons_zero, List.set_cons_succ]
              refine wpAnyH_take (i := 6) (v := ?_) rfl (by kernel_rfl) (by kernel_rfl) (by kernel_rfl) (fun _ _ _ h => h) (Or.inl ⟨by rfl, ?_⟩) ((below_drewN HB15.out 1)) ?_
              rotate_left
              · intro wS hSw
                go_simp
                try with_reducible rfl
              try simp only [List.getElem_toArray, List.getElem_cons_zero, List.getElem_cons_succ, Act.put, List.setIfInBounds_toArray, List.set_cons_zero, List.set_cons_succ]
              refine wpAnyH_take (i := 4) (v := ?_) rfl (by kernel_rfl) (by kernel_rfl) (by kernel_rfl) (fun _ _ _ h => h) (Or.inl ⟨by rfl, ?_⟩) ((below_drewN HB15.out 1)) ?_
              rotate_left
              · intro wS hSw
                have hcv := HCE.out _ hSw
                go_simp
                try with_reducible rfl
              try simp only [List.getElem_toArray, List.getElem_cons_zero, List.getElem_cons_succ, Act.put, List.setIfInBounds_toArray, List.set_cons_zero, List.set_cons_succ]
              refine wpAnyH_ready (rs := [5]) (by kernel_rfl) (by simp) ?_
              refine AllReadyH.cons rfl (fun K hK => ?_) AllReadyH.nil
              go_simp
              refine (HCU.out _ (HKS14.out.via (below_drewN HB15.out 1))).mono ?_
              rintro e w16 ⟨rfl, hb16⟩
              have HB16 := Lib.hid ((below_drewN HB15.out 1).via hb16)
              clear hb16
              refine hK.out _ _ HB16.out (fun _ => ?_)
              clear hK K
              try simp only [List.getElem_toArray, List.getElem_cons_zero, List.getElem_cons_succ, Act.put, List.setIfInBounds_toArray, List.set_cons_zero, List.set_cons_succ]
              refine wpAnyH_take (i := 7) (v := ?_) rfl (by kernel_rfl) (by kernel_rfl) (by kernel_rfl) (fun _ _ _ h => h) (Or.inl ⟨by rfl, ?_⟩) HB16.out ?_
              rotate_left
              · intro wS hSw
                go_simp
                try with_reducible rfl
              try simp only [List.getElem_toArray, List.getElem_cons_zero, List.getElem_cons_succ, Act.put, List.setIfInBounds_toArray, List.set_cons_zero, List.set_cons_succ]
              refine wpAnyH_take (i := 8) (v := ?_) rfl (by kernel_rfl) (by kernel_rfl) (by kernel_rfl) (fun _ _ _ h => h) (Or.inl ⟨by rfl, ?_⟩) HB16.out ?_
              rotate_left
              · intro wS hSw
                go_simp
                try with_reducible rfl
              try simp only [List.getElem_toArray, List.getElem_cons_zero, List.getElem_cons_succ, Act.put, List.setIfInBounds_toArray, List.set_cons_zero, List.set_cons_succ]
              refine wpAnyH_take (i := 9) (v := ?_) rfl (by kernel_rfl) (by kernel_rfl) (by kernel_rfl) (fun _ _ _ h => h) (Or.inl ⟨by rfl, ?_⟩) HB16.out ?_
              rotate_left
              · intro wS hSw
                go_simp
                try with_reducible rfl
              try simp only [List.getElem_toArray, List.getElem_cons_zero, List.getElem_cons_succ, Act.put, List.setIfInBounds_toArray, List.set_cons_zero, List.set_cons_succ]
              refine wpAnyH_take (i := 10) (v := ?_) rfl (by kernel_rfl) (by kernel_rfl) (by kernel_rfl) (fun _ _ _ h => h) (Or.inl ⟨by rfl, ?_⟩) HB16.out ?_
              rotate_left
              · intro wS hSw
                go_simp
                try with_reducible rfl
              try simp only [List.getElem_toArray, List.getElem_cons_zero, List.getElem_cons_succ, Act.put, List.setIfInBounds_toArray, List.set_cons_zero, List.set_cons_succ]
              refine wpAnyH_take (i := 11) (v := ?_) rfl (by kernel_rfl) (by kernel_rfl) (by kernel_rfl) (fun _ _ _ h => h) (Or.inl ⟨by rfl, ?_⟩) HB16.out ?_
              rotate_left
              · intro wS hSw
                go_simp
                try with_reducible rfl
              try simp only [List.getElem_toArray, List.getElem_cons_zero, List.getElem_cons_succ, Act.put, List.setIfInBounds_toArray, List.set_cons_zero, List.set_cons_succ]
              refine wpAnyH_take (i := 12) (v := ?_) rfl (by kernel_rfl) (by kernel_rfl) (by kernel_rfl) (fun _ _ _ h => h) (Or.inl ⟨by rfl, ?_⟩) HB16.out ?_
              rotate_left
              · intro wS hSw
                go_simp
                try with_reducible rfl
              try simp only [List.getElem_toArray, List.getElem_cons_zero, List.getElem_cons_succ, Act.put, List.setIfInBounds_toArray, List.set_cons_zero, List.set_cons_succ]
              refine wpAnyH_take (i := 15) (v := ?_) rfl (by kernel_rfl) (by kernel_rfl) (by kernel_rfl) (fun _ _ _ h => h) (Or.inl ⟨by rfl, ?_⟩) HB16.out ?_
              rotate_left
              · intro wS hSw
                go_simp
                try with_reducible rfl
              try simp only [List.getElem_toArray, List.getElem_cons_zero, List.getElem_cons_succ, Act.put, List.setIfInBounds_toArray, List.set_cons_zero, List.set_cons_succ]
              refine wpAnyH_take (i := 13) (v := ?_) rfl (by kernel_rfl) (by kernel_rfl) (by kernel_rfl) (fun _ _ _ h => h) (Or.inl ⟨by rfl, ?_⟩) HB16.out ?_
              rotate_left
              · intro wS hSw
                have hcv := HCE.out _ hSw
                go_simp
                try with_reducible rfl
              try simp only [List.getElem_toArray, List.getElem_cons_zero, List.getElem_cons_succ, Act.put, List.setIfInBounds_toArray, List.set_cons_zero, List.set_cons_succ]
              refine wpAnyH_ready (rs := [14]) (by kernel_rfl) (by simp) ?_
              refine AllReadyH.cons rfl (fun K hK => ?_) AllReadyH.nil
              go_simp
              refine (HCM.out _ (HKS14.out.via HB16.out)).mono ?_
              rintro e w17 ⟨rfl, hb17⟩
              have HB17 := Lib.hid (HB16.out.via hb17)
              clear hb17
              refine hK.out _ _ HB17.out (fun _ => ?_)
              clear hK K
              try simp only [List.getElem_toArray, List.getElem_cons_zero, List.getElem_cons_succ, Act.put, List.setIfInBounds_toArray, List.set_cons_zero, List.set_cons_succ]
              refine wpAnyH_take (i := 16) (v := ?_) rfl (by kernel_rfl) (by kernel_rfl) (by kernel_rfl) (fun _ _ _ h => h) (Or.inl ⟨by rfl, ?_⟩) HB17.out ?_
              rotate_left
              · intro wS hSw
                go_simp
                try with_reducible rfl
              try simp only [List.getElem_toArray, List.getElem_cons_zero, List.getElem_cons_succ, Act.put, List.setIfInBounds_toArray, List.set_cons_zero, List.set_cons_succ]
              refine wpAnyH_take (i := 18) (v := ?_) rfl (by kernel_rfl) (by kernel_rfl) (by kernel_rfl) (fun _ _ _ h => h) (Or.inl ⟨by rfl, ?_⟩) HB17.out ?_
              rotate_left
              · intro wS hSw
                go_simp
                try with_reducible rfl
              try simp only [List.getElem_toArray, List.getElem_cons_zero, List.getElem_cons_succ, Act.put, List.setIfInBounds_toArray, List.set_cons_zero, List.set_cons_succ]
              refine wpAnyH_take (i := 19) (v := ?_) rfl (by kernel_rfl) (by kernel_rfl) (by kernel_rfl) (fun _ _ _ h => h) (Or.inl ⟨by rfl, ?_⟩) HB17.out ?_
              rotate_left
              · intro wS hSw
                go_simp
                try with_reducible rfl
              try simp only [List.getElem_toArray, List.getElem_cons_zero, List.getElem_cons_succ, Act.put, List.setIfInBounds_toArray, List.set_cons_zero, List.set_cons_succ]
              refine wpAnyH_take (i := 20) (v := ?_) rfl (by kernel_rfl) (by kernel_rfl) (by kernel_rfl) (fun _ _ _ h => h) (Or.inl ⟨by rfl, ?_⟩) HB17.out ?_
              rotate_left
              · intro wS hSw
                go_simp
                try with_reducible rfl
              try simp only [List.getElem_toArray, List.getElem_cons_zero, List.getElem_cons_succ, Act.put, List.setIfInBounds_toArray, List.set_cons_zero, List.set_cons_succ]
              refine wpAnyH_take (i := 17) (v := ?_) rfl (by kernel_rfl) (by kernel_rfl) (by kernel_rfl) (fun _ _ _ h => h) (Or.inl ⟨by rfl, ?_⟩) HB17.out ?_
              rotate_left
              · intro wS hSw
                have hcv := (HKS14.out.via hSw).ss.c0
                have hcv2 := (HKS14.out.via hSw).ss.c1
                go_simp
                try with_reducible rfl
              try simp only [List.getElem_toArray, List.getElem_cons_zero, List.getElem_cons_succ, Act.put, List.setIfInBounds_toArray, List.set_cons_zero, List.set_cons_succ]
              refine wpAnyH_take (i := 21) (v := ?_) rfl (by kernel_rfl) (by kernel_rfl) (by kernel_rfl) (fun _ _ _ h => h) (Or.inl ⟨by rfl, ?_⟩) HB17.out ?_
              rotate_left
              · intro wS hSw
                have hcv := HCE.out _ hSw
                go_simp
                try with_reducible rfl
              try simp only [List.getElem_toArray, List.getElem_cons_zero, List.getElem_cons_succ, Act.put, List.setIfInBounds_toArray, List.set_cons_zero, List.set_cons_succ]
              refine wpAnyH_ready (rs := [22]) (by kernel_rfl) (by simp) ?_
              refine AllReadyH.cons rfl (fun K hK => ?_) AllReadyH.nil
              go_simp
              refine (HINa.out _).mono ?_
              rintro e w18 ⟨rfl, hb18⟩
              have HB18 := Lib.hid (HB17.out.via hb18)
              clear hb18
              refine hK.out _ _ HB18.out (fun _ => ?_)
              clear hK K
              try simp only [List.getElem_toArray, List.getElem_cons_zero, List.getElem_cons_succ, Act.put, List.setIfInBounds_toArray, List.set_cons_zero, List.set_cons_succ]
              refine wpAnyH_take (i := 23) (v := ?_) rfl (by kernel_rfl) (by kernel_rfl) (by kernel_rfl) (fun _ _ _ h => h) (Or.inl ⟨by rfl, ?_⟩) HB18.out ?_
              rotate_left
              · intro wS hSw
                go_simp
                try with_reducible rfl
              try simp only [List.getElem_toArray, List.getElem_cons_zero, List.getElem_cons_succ, Act.put, List.setIfInBounds_toArray, List.set_cons_zero, List.set_cons_succ]
              refine wpAnyH_take (i := 24) (v := ?_) rfl (by kernel_rfl) (by kernel_rfl) (by kernel_rfl) (fun _ _ _ h => h) (Or.inl ⟨by rfl, ?_⟩) HB18.out ?_
              rotate_left
              · intro wS hSw
                go_simp
                try with_reducible rfl
              try simp only [List.getElem_toArray, List.getElem_cons_zero, List.getElem_cons_succ, Act.put, List.setIfInBounds_toArray, List.set_cons_zero, List.set_cons_succ]
              refine wpAnyH_take (i := 25) (v := ?_) rfl (by kernel_rfl) (by kernel_rfl) (by kernel_rfl) (fun _ _ _ h => h) (Or.inl ⟨by rfl, ?_⟩) HB18.out ?_
              rotate_left
              · intro wS hSw
                go_simp
                try with_reducible rfl
              try simp only [List.getElem_toArray, List.getElem_cons_zero, List.getElem_cons_succ, Act.put, List.setIfInBounds_toArray, List.set_cons_zero, List.set_cons_succ]
              refine wpAnyH_take (i := 26) (v := ?_) rfl (by kernel_rfl) (by kernel_rfl) (by kernel_rfl) (fun _ _ _ h => h) (Or.inl ⟨by rfl, ?_⟩) HB18.out ?_
              rotate_left
              · intro wS hSw
                go_simp
                try with_reducible rfl
              try simp only [List.getElem_toArray, List.getElem_cons_zero, List.getElem_cons_succ, Act.put, List.setIfInBounds_toArray, List.set_cons_zero, List.set_cons_succ]
              refine wpAnyH_done (by kernel_rfl) ?_ _
              go_wp2
              go_roundw
              case rel => exact ⟨i + 1, by go_num, by omega, HB18⟩
              case measure => first | (simp [Go.RowKit.intOf]; done) | (simp [Go.RowKit.intOf]; omega)
        · have hik2 : i = k2 := by omega
          subst hik2
          have HKSx := Lib.hid (HKS14.out.via HBy.out)
          clear HKS14 HO14 HBy HC HIN HCO
          obtain ⟨w0, rfl⟩ : ∃ w0, w0 = wr := ⟨_, rfl⟩
          have HSB : Hid (∀ w, Below w0.heap.size w0 w → w.cell? ⟨W.heap.size, 0, none⟩ = some (.string f) ∧ w.cell? ⟨W.heap.size, 1, none⟩ = some (.string t)) := Lib.hid (fun w hw => ⟨(HKSx.out.via hw).ss.c0, (HKSx.out.via hw).ss.c1⟩)
          have HWS : Hid (W.heap.size ≤ w0.heap.size) := Lib.hid HKSx.out.ss.below.size
          have HRL : Hid (∀ w, Below w0.heap.size w0 w → Rd w w0.heap.size Am (cellsL Om)) := Lib.hid (fun w hw => HKSx.out.m.rd.below hw)
          have HLN : Hid (Om.length = nm) := Lib.hid HKSx.out.m.len
          go_upto_region 19 with fail
          go_cut [13] from 117 to 149 (fun x13 wx => ∃ (A6 : Option Addr) (n6 c6 : Nat) (O6 : List Sn), x13 = .slice A6 n6 c6 ∧ Hid (Own wx w0.heap.size A6 n6 c6 O6) ∧ Hid (Ord.Canon O6 ∧ ∀ k, Ord.cov O6 k = Ord.cov (Om ++ [(f, t)]) k) ∧ n6 ≤ 50 ∧ Hid (Below w0.heap.size w0 wx))
          case first =>
            go_wp2_with fail
            refine wp_region_held_drew (S := (fun wQq => Below w0.heap.size w0 wQq)) (by kernel_rfl) ((below_drewN (Below.refl w0.heap.size w0) 1)) (fun _ => ?_)
            refine wpAnyH_take (i := 1) (v := ?_) rfl (by kernel_rfl) (by kernel_rfl) (by kernel_rfl) (fun _ _ _ h => h) (Or.inl ⟨by rfl, ?_⟩) ((below_drewN (Below.refl w0.heap.size w0) 1)) ?_
            rotate_left
            · intro wS hSw
              go_simp
              try with_reducible rfl
            try simp only [List.getElem_toArray, List.getElem_cons_zero, List.getElem_cons_succ, Act.put, List.setIfInBounds_toArray, List.set_cons_zero, List.set_cons_succ]
            refine wpAnyH_take (i := 3) (v := ?_) rfl (by kernel_rfl) (by kernel_rfl) (by kernel_rfl) (fun _ _ _ h => h) (Or.inl ⟨by rfl, ?_⟩) ((below_drewN (Below.refl w0.heap.size w0) 1)) ?_
            rotate_left
            · intro wS hSw
              have hcv := (HSB.out _ hSw).1
              have hcv2 := (HSB.out _ hSw).2
              go_simp
              try with_reducible rfl
            try simp only [List.getElem_toArray, List.getElem_cons_zero, List.getElem_cons_succ, Act.put, List.setIfInBounds_toArray, List.set_cons_zero, List.set_cons_succ]
            refine wpAnyH_ready (rs := [0, 4]) (by kernel_rfl) (by simp) ?_
            refine AllReadyH.cons rfl (fun K hK => ?_) (AllReadyH.cons rfl (fun K hK => ?_) AllReadyH.nil)
            · go_simp
              have HB0 : Hid (Below w0.heap.size w0 (w0.drew.alloc (.cells #[] 26))) := Lib.hid ((below_drewN (Below.refl w0.heap.size w0) 1).alloc (Nat.le_refl _) _)
              have HO0 : Hid (Own (w0.drew.alloc (.cells #[] 26)) w0.heap.size (some ⟨w0.heap.size, 0, none⟩) 0 0 []) := Lib.hid (World.ownsRow_lit w0.drew #[] 0 (Nat.le_refl _) (by decide) rfl)
              refine hK.out _ _ HB0.out (fun _ => ?_)
              clear hK K
              try simp only [List.getElem_toArray, List.getElem_cons_zero, List.getElem_cons_succ, Act.put, List.setIfInBounds_toArray, List.set_cons_zero, List.set_cons_succ]
              refine wpAnyH_ready (rs := [2, 4]) (by kernel_rfl) (by simp) ?_
              refine AllReadyH.cons rfl (fun K hK => ?_) (AllReadyH.cons rfl (fun K hK => ?_) AllReadyH.nil)
              · refine wp_appS2 (.tmp 117) (.tmp 118) rfl w0.heap.size (some ⟨w0.heap.size, 0, none⟩) 0 0 [] rfl HO0.out _ Am nm cm Om rfl HLN.out (HRL.out _ HB0.out) (by omega) HB0.out.size ?_
                intro A2 c2 w2 ho2 hg2 hb2
                simp only [Nat.zero_add, List.nil_append] at ho2 ⊢
                have HB2 := Lib.hid (HB0.out.trans hb2)
                have HO2 := Lib.hid ho2
                clear ho2 hg2 hb2
                refine hK.out _ _ HB2.out (fun _ => ?_)
                clear hK K
                try simp only [List.getElem_toArray, List.getElem_cons_zero, List.getElem_cons_succ, Act.put, List.setIfInBounds_toArray, List.set_cons_zero, List.set_cons_succ]
                refine wpAnyH_ready (rs := [4]) (by kernel_rfl) (by simp) ?_
                refine AllReadyH.cons rfl (fun K hK => ?_) AllReadyH.nil
                go_simp
                have HB4 : Hid (Below w0.heap.size w0 (w2.alloc (.cells #[.string f, .string t] 26))) := Lib.hid (HB2.out.alloc HB2.out.size _)
                have HO4 : Hid (Own (w2.alloc (.cells #[.string f, .string t] 26)) w0.heap.size A2 nm c2 Om) := Lib.hid (HO2.out.via ((Below.refl _ _).alloc (Nat.le_refl _) _))
                have HX4 : Hid (Blk (w2.alloc (.cells #[.string f, .string t] 26)) w2.heap.size 26 (cellsL [(f, t)]).toArray) := Lib.hid (Blk.new _ _ _)
                generalize w2.heap.size = q4 at HX4 ⊢
                refine hK.out _ _ HB4.out (fun _ => ?_)
                clear hK K
                try simp only [List.getElem_toArray, List.getElem_cons_zero, List.getElem_cons_succ, Act.put, List.setIfInBounds_toArray, List.set_cons_zero, List.set_cons_succ]
                refine wpAnyH_ready (rs := [5]) (by kernel_rfl) (by simp) ?_
                refine AllReadyH.cons rfl (fun K hK => ?_) AllReadyH.nil
                refine wp_appS2 (.tmp 119) (.tmp 121) rfl w0.heap.size A2 nm c2 Om rfl HO4.out (q4 + 1) (some ⟨q4, 0, none⟩) 1 1 [(f, t)] rfl rfl (Rd.blk HX4.out) (by omega) HB4.out.size ?_
                intro A5 c5 w5 ho5 hg5 hb5
                have HB5 := Lib.hid (HB4.out.trans hb5)
                have HO5 := Lib.hid ho5
                clear ho5 hg5 hb5
                refine hK.out _ _ HB5.out (fun _ => ?_)
                clear hK K
                try simp only [List.getElem_toArray, List.getElem_cons_zero, List.getElem_cons_succ, Act.put, List.setIfInBounds_toArray, List.set_cons_zero, List.set_cons_succ]
                refine wpAnyH_ready (rs := [6]) (by kernel_rfl) (by simp) ?_
                refine AllReadyH.cons rfl (fun K hK => ?_) AllReadyH.nil
                go_simp
                refine (HUN.out w5 _ _ _ _ (HO5.out.lower HWS.out) (by omega)).mono ?_
                rintro e w6 ⟨A6, n6, c6, rfl, O6, ho6, hcan6, hcov6, hn6, hb6⟩
                have HB6 := Lib.hid (HB5.out.via hb6)
                have HO6 := Lib.hid (ho6.lower HB5.out.size)
                have HK6 := Lib.hid (And.intro hcan6 hcov6)
                clear ho6 hcan6 hcov6 hb6
                refine hK.out _ _ HB6.out (fun _ => ?_)
                clear hK K
                try simp only [List.getElem_toArray, List.getElem_cons_zero, List.getElem_cons_succ, Act.put, List.setIfInBounds_toArray, List.set_cons_zero, List.set_cons_succ]
                refine wpAnyH_take (i := 7) (v := ?_) rfl (by kernel_rfl) (by kernel_rfl) (by kernel_rfl) (fun _ _ _ h => h) (Or.inl ⟨by rfl, ?_⟩) HB6.out ?_
                rotate_left
                · intro wS hSw
                  go_simp
                  try with_reducible rfl
                try simp only [List.getElem_toArray, List.getElem_cons_zero, List.getElem_cons_succ, Act.put, List.setIfInBounds_toArray, List.set_cons_zero, List.set_cons_succ]
                refine wpAnyH_done (by kernel_rfl) ?_ _
                try go_wp2_with fail
                go_meet
                exact ⟨A6, n6, c6, O6, rfl, HO6, HK6, by omega, HB6⟩
              · go_simp
                have HBy : Hid (Below w0.heap.size w0 ((w0.drew.alloc (.cells #[] 26)).alloc (.cells #[.string f, .string t] 26))) := Lib.hid (HB0.out.alloc HB0.out.size _)
                have HOy : Hid (Own ((w0.drew.alloc (.cells #[] 26)).alloc (.cells #[.string f, .string t] 26)) w0.heap.size (some ⟨w0.heap.size, 0, none⟩) 0 0 []) := Lib.hid (HO0.out.via ((Below.refl _ _).alloc (Nat.le_refl _) _))
                have HXy : Hid (Blk ((w0.drew.alloc (.cells #[] 26)).alloc (.cells #[.string f, .string t] 26)) (w0.heap.size + 1) 26 (cellsL [(f, t)]).toArray) := Lib.hid (by
                  have := Blk.new (w0.drew.alloc (.cells #[] 26)) 26 (cellsL [(f, t)]).toArray
                  have e : (w0.drew.alloc (.cells #[] 26)).heap.size = w0.heap.size + 1 := by simp
                  rw [e] at this
                  exact this)
                obtain ⟨q4, hq4⟩ : ∃ q4, w0.heap.size + 1 = q4 := ⟨_, rfl⟩
                have HQ4 : Hid (q4 ≠ w0.heap.size) := Lib.hid (by omega)
                rw [hq4] at HXy
                simp only [hq4]
                clear hq4
                refine hK.out _ _ HBy.out (fun _ => ?_)
                clear hK K
                try simp only [List.getElem_toArray, List.getElem_cons_zero, List.getElem_cons_succ, Act.put, List.setIfInBounds_toArray, List.set_cons_zero, List.set_cons_succ]
                refine wpAnyH_ready (rs := [2]) (by kernel_rfl) (by simp) ?_
                refine AllReadyH.cons rfl (fun K hK => ?_) AllReadyH.nil
                refine wp_appS2 (.tmp 117) (.tmp 118) rfl w0.heap.size (some ⟨w0.heap.size, 0, none⟩) 0 0 [] rfl HOy.out _ Am nm cm Om rfl HLN.out (HRL.out _ HBy.out) (by omega) HBy.out.size ?_
                intro A2 c2 w2 ho2 hg2 hb2
                simp only [Nat.zero_add, List.nil_append] at ho2 ⊢
                have HB4 := Lib.hid (HBy.out.trans hb2)
                have HO4 := Lib.hid ho2
                have HX4 : Hid (Blk w2 q4 26 (cellsL [(f, t)]).toArray) := Lib.hid ((hg2.block q4 HXy.out.lt (fun e => HQ4.out (by injection e))).trans HXy.out)
                clear ho2 hg2 hb2
                refine hK.out _ _ HB4.out (fun _ => ?_)
                clear hK K
                try simp only [List.getElem_toArray, List.getElem_cons_zero, List.getElem_cons_succ, Act.put, List.setIfInBounds_toArray, List.set_cons_zero, List.set_cons_succ]
                refine wpAnyH_ready (rs := [5]) (by kernel_rfl) (by simp) ?_
                refine AllReadyH.cons rfl (fun K hK => ?_) AllReadyH.nil
                refine wp_appS2 (.tmp 119) (.tmp 121) rfl w0.heap.size A2 nm c2 Om rfl HO4.out (q4 + 1) (some ⟨q4, 0, none⟩) 1 1 [(f, t)] rfl rfl (Rd.blk HX4.out) (by omega) HB4.out.size ?_
                intro A5 c5 w5 ho5 hg5 hb5
                have HB5 := Lib.hid (HB4.out.trans hb5)
                have HO5 := Lib.hid ho5
                clear ho5 hg5 hb5
                refine hK.out _ _ HB5.out (fun _ => ?_)
                clear hK K
                try simp only [List.getElem_toArray, List.getElem_cons_zero, List.getElem_cons_succ, Act.put, List.setIfInBounds_toArray, List.set_cons_zero, List.set_cons_succ]
                refine wpAnyH_ready (rs := [6]) (by kernel_rfl) (by simp) ?_
                refine AllReadyH.cons rfl (fun K hK => ?_) AllReadyH.nil
                go_simp
                refine (HUN.out w5 _ _ _ _ (HO5.out.lower HWS.out) (by omega)).mono ?_
                rintro e w6 ⟨A6, n6, c6, rfl, O6, ho6, hcan6, hcov6, hn6, hb6⟩
                have HB6 := Lib.hid (HB5.out.via hb6)
                have HO6 := Lib.hid (ho6.lower HB5.out.size)
                have HK6 := Lib.hid (And.intro hcan6 hcov6)
                clear ho6 hcan6 hcov6 hb6
                refine hK.out _ _ HB6.out (fun _ => ?_)
                clear hK K
                try simp only [List.getElem_toArray, List.getElem_cons_zero, List.getElem_cons_succ, Act.put, List.setIfInBounds_toArray, List.set_cons_zero, List.set_cons_succ]
                refine wpAnyH_take (i := 7) (v := ?_) rfl (by kernel_rfl) (by kernel_rfl) (by kernel_rfl) (fun _ _ _ h => h) (Or.inl ⟨by rfl, ?_⟩) HB6.out ?_
                rotate_left
                · intro wS hSw
                  go_simp
                  try with_reducible rfl
                try simp only [List.getElem_toArray, List.getElem_cons_zero, List.getElem_cons_succ, Act.put, List.setIfInBounds_toArray, List.set_cons_zero, List.set_cons_succ]
                refine wpAnyH_done (by kernel_rfl) ?_ _
                try go_wp2_with fail
                go_meet
                exact ⟨A6, n6, c6, O6, rfl, HO6, HK6, by omega, HB6⟩
            · go_simp
              have HBz : Hid (Below w0.heap.size w0 (w0.drew.alloc (.cells #[.string f, .string t] 26))) := Lib.hid ((below_drewN (Below.refl w0.heap.size w0) 1).alloc (Nat.le_refl _) _)
              have HXz : Hid (Blk (w0.drew.alloc (.cells #[.string f, .string t] 26)) w0.heap.size 26 (cellsL [(f, t)]).toArray) := Lib.hid (Blk.new _ _ _)
              obtain ⟨q4, hq4⟩ : ∃ q4, w0.heap.size = q4 := ⟨_, rfl⟩
              have HQ4 : Hid (q4 = w0.heap.size) := Lib.hid hq4.symm
              have HXz' : Hid (Blk (w0.drew.alloc (.cells #[.string f, .string t] 26)) q4 26 (cellsL [(f, t)]).toArray) := Lib.hid (hq4 ▸ HXz.out)
              clear HXz
              simp only [hq4]
              clear hq4
              refine hK.out _ _ HBz.out (fun _ => ?_)
              clear hK K
              try simp only [List.getElem_toArray, List.getElem_cons_zero, List.getElem_cons_succ, Act.put, List.setIfInBounds_toArray, List.set_cons_zero, List.set_cons_succ]
              refine wpAnyH_ready (rs := [0]) (by kernel_rfl) (by simp) ?_
              refine AllReadyH.cons rfl (fun K hK => ?_) AllReadyH.nil
              go_simp
              have HBy : Hid (Below w0.heap.size w0 ((w0.drew.alloc (.cells #[.string f, .string t] 26)).alloc (.cells #[] 26))) := Lib.hid (HBz.out.alloc HBz.out.size _)
              have HOy : Hid (Own ((w0.drew.alloc (.cells #[.string f, .string t] 26)).alloc (.cells #[] 26)) w0.heap.size (some ⟨w0.heap.size + 1, 0, none⟩) 0 0 []) := Lib.hid (by
                have := World.ownsRow_lit (base := w0.heap.size) (e := 26) (size := 2) (w0.drew.alloc (.cells #[.string f, .string t] 26)) #[] 0 HBz.out.size (by decide) rfl
                have e : (w0.drew.alloc (.cells #[.string f, .string t] 26)).heap.size = w0.heap.size + 1 := by simp
                rw [e] at this
                exact this)
              have HXy : Hid (Blk ((w0.drew.alloc (.cells #[.string f, .string t] 26)).alloc (.cells #[] 26)) q4 26 (cellsL [(f, t)]).toArray) := Lib.hid (HXz'.out.alloc _)
              refine hK.out _ _ HBy.out (fun _ => ?_)
              clear hK K
              try simp only [List.getElem_toArray, List.getElem_cons_zero, List.getElem_cons_succ, Act.put, List.setIfInBounds_toArray, List.set_cons_zero, List.set_cons_succ]
              refine wpAnyH_ready (rs := [2]) (by kernel_rfl) (by simp) ?_
              refine AllReadyH.cons rfl (fun K hK => ?_) AllReadyH.nil
              refine wp_appS2 (.tmp 117) (.tmp 118) rfl w0.heap.size (some ⟨w0.heap.size + 1, 0, none⟩) 0 0 [] rfl HOy.out _ Am nm cm Om rfl HLN.out (HRL.out _ HBy.out) (by omega) HBy.out.size ?_
              intro A2 c2 w2 ho2 hg2 hb2
              simp only [Nat.zero_add, List.nil_append] at ho2 ⊢
              have HB4 := Lib.hid (HBy.out.trans hb2)
              have HO4 := Lib.hid ho2
              have HX4 : Hid (Blk w2 q4 26 (cellsL [(f, t)]).toArray) := Lib.hid ((hg2.block q4 HXy.out.lt (fun e => by have h1 := HQ4.out; have h2 : q4 = w0.heap.size + 1 := (by injection e); omega)).trans HXy.out)
              clear ho2 hg2 hb2
              refine hK.out _ _ HB4.out (fun _ => ?_)
              clear hK K
              try simp only [List.getElem_toArray, List.getElem_cons_zero, List.getElem_cons_succ, Act.put, List.setIfInBounds_toArray, List.set_cons_zero, List.set_cons_succ]
              refine wpAnyH_ready (rs := [5]) (by kernel_rfl) (by simp) ?_
              refine AllReadyH.cons rfl (fun K hK => ?_) AllReadyH.nil
              refine wp_appS2 (.tmp 119) (.tmp 121) rfl w0.heap.size A2 nm c2 Om rfl HO4.out (q4 + 1) (some ⟨q4, 0, none⟩) 1 1 [(f, t)] rfl rfl (Rd.blk HX4.out) (by omega) HB4.out.size ?_
              intro A5 c5 w5 ho5 hg5 hb5
              have HB5 := Lib.hid (HB4.out.trans hb5)
              have HO5 := Lib.hid ho5
              clear ho5 hg5 hb5
              refine hK.out _ _ HB5.out (fun _ => ?_)
              clear hK K
              try simp only [List.getElem_toArray, List.getElem_cons_zero, List.getElem_cons_succ, Act.put, List.setIfInBounds_toArray, List.set_cons_zero, List.set_cons_succ]
              refine wpAnyH_ready (rs := [6]) (by kernel_rfl) (by simp) ?_
              refine AllReadyH.cons rfl (fun K hK => ?_) AllReadyH.nil
              go_simp
              refine (HUN.out w5 _ _ _ _ (HO5.out.lower HWS.out) (by omega)).mono ?_
              rintro e w6 ⟨A6, n6, c6, rfl, O6, ho6, hcan6, hcov6, hn6, hb6⟩
              have HB6 := Lib.hid (HB5.out.via hb6)
              have HO6 := Lib.hid (ho6.lower HB5.out.size)
              have HK6 := Lib.hid (And.intro hcan6 hcov6)
              clear ho6 hcan6 hcov6 hb6
              refine hK.out _ _ HB6.out (fun _ => ?_)
              clear hK K
              try simp only [List.getElem_toArray, List.getElem_cons_zero, List.getElem_cons_succ, Act.put, List.setIfInBounds_toArray, List.set_cons_zero, List.set_cons_succ]
              refine wpAnyH_take (i := 7) (v := ?_) rfl (by kernel_rfl) (by kernel_rfl) (by kernel_rfl) (fun _ _ _ h => h) (Or.inl ⟨by rfl, ?_⟩) HB6.out ?_
              rotate_left
              · intro wS hSw
                go_simp
                try with_reducible rfl
              try simp only [List.getElem_toArray, List.getElem_cons_zero, List.getElem_cons_succ, Act.put, List.setIfInBounds_toArray, List.set_cons_zero, List.set_cons_succ]
              refine wpAnyH_done (by kernel_rfl) ?_ _
              try go_wp2_with fail
              go_meet
              exact ⟨A6, n6, c6, O6, rfl, HO6, HK6, by omega, HB6⟩
          case rest =>
            clear HRL HLN HSB
            obtain ⟨A13, n13, c13, O13, rfl, HO13, HK13, hn13, HB13⟩ := hcut
            obtain ⟨w13, rfl⟩ : ∃ w13, w13 = wc := ⟨_, rfl⟩
            have HKSy := Lib.hid (HKSx.out.via HB13.out)
            clear HKSx HB13 HWS
            have HKSx := HKSy
            clear HKSy
            have HSB : Hid (∀ w, Below w13.heap.size w13 w → w.cell? ⟨W.heap.size, 0, none⟩ = some (.string f) ∧ w.cell? ⟨W.heap.size, 1, none⟩ = some (.string t)) := Lib.hid (fun w hw => ⟨(HKSx.out.via hw).ss.c0, (HKSx.out.via hw).ss.c1⟩)
            have HWS : Hid (W.heap.size ≤ w13.heap.size) := Lib.hid HKSx.out.ss.below.size
            have HRL : Hid (∀ w, Below w13.heap.size w13 w → Rd w W.heap.size A (cellsL L)) := Lib.hid (fun w hw => HRD.out.1.below (HKSx.out.ss.below.via hw))
            have HLN : Hid (L.length = n) := Lib.hid HRD.out.2.1
            go_upto_region 20 with fail
            go_cut [14] from 124 to 149 (fun x14 wx => ∃ (A6 : Option Addr) (n6 c6 : Nat) (O6 : List Sn), x14 = .slice A6 n6 c6 ∧ Hid (Own wx w13.heap.size A6 n6 c6 O6) ∧ Hid (Ord.Canon O6 ∧ ∀ k, Ord.cov O6 k = Ord.cov (L ++ [(f, t)]) k) ∧ n6 ≤ 50 ∧ Hid (Below w13.heap.size w13 wx))
            case first =>
              go_wp2_with fail
              refine wp_region_held_drew (S := (fun wQq => Below w13.heap.size w13 wQq)) (by kernel_rfl) ((below_drewN (Below.refl w13.heap.size w13) 1)) (fun _ => ?_)
              refine wpAnyH_take (i := 1) (v := ?_) rfl (by kernel_rfl) (by kernel_rfl) (by kernel_rfl) (fun _ _ _ h => h) (Or.inl ⟨by rfl, ?_⟩) ((below_drewN (Below.refl w13.heap.size w13) 1)) ?_
              rotate_left
              · intro wS hSw
                go_simp
                try with_reducible rfl
              try simp only [List.getElem_toArray, List.getElem_cons_zero, List.getElem_cons_succ, Act.put, List.setIfInBounds_toArray, List.set_cons_zero, List.set_cons_succ]
              refine wpAnyH_take (i := 3) (v := ?_) rfl (by kernel_rfl) (by kernel_rfl) (by kernel_rfl) (fun _ _ _ h => h) (Or.inl ⟨by rfl, ?_⟩) ((below_drewN (Below.refl w13.heap.size w13) 1)) ?_
              rotate_left
              · intro wS hSw
                have hcv := (HSB.out _ hSw).1
                have hcv2 := (HSB.out _ hSw).2
                go_simp
                try with_reducible rfl
              try simp only [List.getElem_toArray, List.getElem_cons_zero, List.getElem_cons_succ, Act.put, List.setIfInBounds_toArray, List.set_cons_zero, List.set_cons_succ]
              refine wpAnyH_ready (rs := [0, 4]) (by kernel_rfl) (by simp) ?_
              refine AllReadyH.cons rfl (fun K hK => ?_) (AllReadyH.cons rfl (fun K hK => ?_) AllReadyH.nil)
              · go_simp
                have HB0 : Hid (Below w13.heap.size w13 (w13.drew.alloc (.cells #[] 26))) := Lib.hid ((below_drewN (Below.refl w13.heap.size w13) 1).alloc (Nat.le_refl _) _)
                have HO0 : Hid (Own (w13.drew.alloc (.cells #[] 26)) w13.heap.size (some ⟨w13.heap.size, 0, none⟩) 0 0 []) := Lib.hid (World.ownsRow_lit w13.drew #[] 0 (Nat.le_refl _) (by decide) rfl)
                refine hK.out _ _ HB0.out (fun _ => ?_)
                clear hK K
                try simp only [List.getElem_toArray, List.getElem_cons_zero, List.getElem_cons_succ, Act.put, List.setIfInBounds_toArray, List.set_cons_zero, List.set_cons_succ]
                refine wpAnyH_ready (rs := [2, 4]) (by kernel_rfl) (by simp) ?_
                refine AllReadyH.cons rfl (fun K hK => ?_) (AllReadyH.cons rfl (fun K hK => ?_) AllReadyH.nil)
                · refine wp_appS2 (.tmp 124) (.tmp 125) rfl w13.heap.size (some ⟨w13.heap.size, 0, none⟩) 0 0 [] rfl HO0.out _ A n c L rfl HLN.out (HRL.out _ HB0.out) (by omega) HB0.out.size ?_
                  intro A2 c2 w2 ho2 hg2 hb2
                  simp only [Nat.zero_add, List.nil_append] at ho2 ⊢
                  have HB2 := Lib.hid (HB0.out.trans hb2)
                  have HO2 := Lib.hid ho2
                  clear ho2 hg2 hb2
                  refine hK.out _ _ HB2.out (fun _ => ?_)
                  clear hK K
                  try simp only [List.getElem_toArray, List.getElem_cons_zero, List.getElem_cons_succ, Act.put, List.setIfInBounds_toArray, List.set_cons_zero, List.set_cons_succ]
                  refine wpAnyH_ready (rs := [4]) (by kernel_rfl) (by simp) ?_
                  refine AllReadyH.cons rfl (fun K hK => ?_) AllReadyH.nil
                  go_simp
                  have HB4 : Hid (Below w13.heap.size w13 (w2.alloc (.cells #[.string f, .string t] 26))) := Lib.hid (HB2.out.alloc HB2.out.size _)
                  have HO4 : Hid (Own (w2.alloc (.cells #[.string f, .string t] 26)) w13.heap.size A2 n c2 L) := Lib.hid (HO2.out.via ((Below.refl _ _).alloc (Nat.le_refl _) _))
                  have HX4 : Hid (Blk (w2.alloc (.cells #[.string f, .string t] 26)) w2.heap.size 26 (cellsL [(f, t)]).toArray) := Lib.hid (Blk.new _ _ _)
                  generalize w2.heap.size = q4 at HX4 ⊢
                  refine hK.out _ _ HB4.out (fun _ => ?_)
                  clear hK K
                  try simp only [List.getElem_toArray, List.getElem_cons_zero, List.getElem_cons_succ, Act.put, List.setIfInBounds_toArray, List.set_cons_zero, List.set_cons_succ]
                  refine wpAnyH_ready (rs := [5]) (by kernel_rfl) (by simp) ?_
                  refine AllReadyH.cons rfl (fun K hK => ?_) AllReadyH.nil
                  refine wp_appS2 (.tmp 126) (.tmp 128) rfl w13.heap.size A2 n c2 L rfl HO4.out (q4 + 1) (some ⟨q4, 0, none⟩) 1 1 [(f, t)] rfl rfl (Rd.blk HX4.out) (by omega) HB4.out.size ?_
                  intro A5 c5 w5 ho5 hg5 hb5
                  have HB5 := Lib.hid (HB4.out.trans hb5)
                  have HO5 := Lib.hid ho5
                  clear ho5 hg5 hb5
                  refine hK.out _ _ HB5.out (fun _ => ?_)
                  clear hK K
                  try simp only [List.getElem_toArray, List.getElem_cons_zero, List.getElem_cons_succ, Act.put, List.setIfInBounds_toArray, List.set_cons_zero, List.set_cons_succ]
                  refine wpAnyH_ready (rs := [6]) (by kernel_rfl) (by simp) ?_
                  refine AllReadyH.cons rfl (fun K hK => ?_) AllReadyH.nil
                  go_simp
                  refine (HUN.out w5 _ _ _ _ (HO5.out.lower HWS.out) (by omega)).mono ?_
                  rintro e w6 ⟨A6, n6, c6, rfl, O6, ho6, hcan6, hcov6, hn6, hb6⟩
                  have HB6 := Lib.hid (HB5.out.via hb6)
                  have HO6 := Lib.hid (ho6.lower HB5.out.size)
                  have HK6 := Lib.hid (And.intro hcan6 hcov6)
                  clear ho6 hcan6 hcov6 hb6
                  refine hK.out _ _ HB6.out (fun _ => ?_)
                  clear hK K
                  try simp only [List.getElem_toArray, List.getElem_cons_zero, List.getElem_cons_succ, Act.put, List.setIfInBounds_toArray, List.set_cons_zero, List.set_cons_succ]
                  refine wpAnyH_take (i := 7) (v := ?_) rfl (by kernel_rfl) (by kernel_rfl) (by kernel_rfl) (fun _ _ _ h => h) (Or.inl ⟨by rfl, ?_⟩) HB6.out ?_
                  rotate_left
                  · intro wS hSw
                    go_simp
                    try with_reducible rfl
                  try simp only [List.getElem_toArray, List.getElem_cons_zero, List.getElem_cons_succ, Act.put, List.setIfInBounds_toArray, List.set_cons_zero, List.set_cons_succ]
                  refine wpAnyH_done (by kernel_rfl) ?_ _
                  try go_wp2_with fail
                  go_meet
                  exact ⟨A6, n6, c6, O6, rfl, HO6, HK6, by omega, HB6⟩
                · go_simp
                  have HBy : Hid (Below w13.heap.size w13 ((w13.drew.alloc (.cells #[] 26)).alloc (.cells #[.string f, .string t] 26))) := Lib.hid (HB0.out.alloc HB0.out.size _)
                  have HOy : Hid (Own ((w13.drew.alloc (.cells #[] 26)).alloc (.cells #[.string f, .string t] 26)) w13.heap.size (some ⟨w13.heap.size, 0, none⟩) 0 0 []) := Lib.hid (HO0.out.via ((Below.refl _ _).alloc (Nat.le_refl _) _))
                  have HXy : Hid (Blk ((w13.drew.alloc (.cells #[] 26)).alloc (.cells #[.string f, .string t] 26)) (w13.heap.size + 1) 26 (cellsL [(f, t)]).toArray) := Lib.hid (by
                    have := Blk.new (w13.drew.alloc (.cells #[] 26)) 26 (cellsL [(f, t)]).toArray
                    have e : (w13.drew.alloc (.cells #[] 26)).heap.size = w13.heap.size + 1 := by simp
                    rw [e] at this
                    exact this)
                  obtain ⟨q4, hq4⟩ : ∃ q4, w13.heap.size + 1 = q4 := ⟨_, rfl⟩
                  have HQ4 : Hid (q4 ≠ w13.heap.size) := Lib.hid (by omega)
                  rw [hq4] at HXy
                  simp only [hq4]
                  clear hq4
                  refine hK.out _ _ HBy.out (fun _ => ?_)
                  clear hK K
                  try simp only [List.getElem_toArray, List.getElem_cons_zero, List.getElem_cons_succ, Act.put, List.setIfInBounds_toArray, List.set_cons_zero, List.set_cons_succ]
                  refine wpAnyH_ready (rs := [2]) (by kernel_rfl) (by simp) ?_
                  refine AllReadyH.cons rfl (fun K hK => ?_) AllReadyH.nil
                  refine wp_appS2 (.tmp 124) (.tmp 125) rfl w13.heap.size (some ⟨w13.heap.size, 0, none⟩) 0 0 [] rfl HOy.out _ A n c L rfl HLN.out (HRL.out _ HBy.out) (by omega) HBy.out.size ?_
                  intro A2 c2 w2 ho2 hg2 hb2
                  simp only [Nat.zero_add, List.nil_append] at ho2 ⊢
                  have HB4 := Lib.hid (HBy.out.trans hb2)
                  have HO4 := Lib.hid ho2
                  have HX4 : Hid (Blk w2 q4 26 (cellsL [(f, t)]).toArray) := Lib.hid ((hg2.block q4 HXy.out.lt (fun e => HQ4.out (by injection e))).trans HXy.out)
                  clear ho2 hg2 hb2
                  refine hK.out _ _ HB4.out (fun _ => ?_)
                  clear hK K
                  try simp only [List.getElem_toArray, List.getElem_cons_zero, List.getElem_cons_succ, Act.put, List.setIfInBounds_toArray, List.set_cons_zero, List.set_cons_succ]
                  refine wpAnyH_ready (rs := [5]) (by kernel_rfl) (by simp) ?_
                  refine AllReadyH.cons rfl (fun K hK => ?_) AllReadyH.nil
                  refine wp_appS2 (.tmp 126) (.tmp 128) rfl w13.heap.size A2 n c2 L rfl HO4.out (q4 + 1) (some ⟨q4, 0, none⟩) 1 1 [(f, t)] rfl rfl (Rd.blk HX4.out) (by omega) HB4.out.size ?_
                  intro A5 c5 w5 ho5 hg5 hb5
                  have HB5 := Lib.hid (HB4.out.trans hb5)
                  have HO5 := Lib.hid ho5
                  clear ho5 hg5 hb5
                  refine hK.out _ _ HB5.out (fun _ => ?_)
                  clear hK K
                  try simp only [List.getElem_toArray, List.getElem_cons_zero, List.getElem_cons_succ, Act.put, List.setIfInBounds_toArray, List.set_cons_zero, List.set_cons_succ]
                  refine wpAnyH_ready (rs := [6]) (by kernel_rfl) (by simp) ?_
                  refine AllReadyH.cons rfl (fun K hK => ?_) AllReadyH.nil
                  go_simp
                  refine (HUN.out w5 _ _ _ _ (HO5.out.lower HWS.out) (by omega)).mono ?_
                  rintro e w6 ⟨A6, n6, c6, rfl, O6, ho6, hcan6, hcov6, hn6, hb6⟩
                  have HB6 := Lib.hid (HB5.out.via hb6)
                  have HO6 := Lib.hid (ho6.lower HB5.out.size)
                  have HK6 := Lib.hid (And.intro hcan6 hcov6)
                  clear ho6 hcan6 hcov6 hb6
                  refine hK.out _ _ HB6.out (fun _ => ?_)
                  clear hK K
                  try simp only [List.getElem_toArray, List.getElem_cons_zero, List.getElem_cons_succ, Act.put, List.setIfInBounds_toArray, List.set_cons_zero, List.set_cons_succ]
                  refine wpAnyH_take (i := 7) (v := ?_) rfl (by kernel_rfl) (by kernel_rfl) (by kernel_rfl) (fun _ _ _ h => h) (Or.inl ⟨by rfl, ?_⟩) HB6.out ?_
                  rotate_left
                  · intro wS hSw
                    go_simp
                    try with_reducible rfl
                  try simp only [List.getElem_toArray, List.getElem_cons_zero, List.getElem_cons_succ, Act.put, List.setIfInBounds_toArray, List.set_cons_zero, List.set_cons_succ]
                  refine wpAnyH_done (by kernel_rfl) ?_ _
                  try go_wp2_with fail
                  go_meet
                  exact ⟨A6, n6, c6, O6, rfl, HO6, HK6, by omega, HB6⟩
              · go_simp
                have HBz : Hid (Below w13.heap.size w13 (w13.drew.alloc (.cells #[.string f, .string t] 26))) := Lib.hid ((below_drewN (Below.refl w13.heap.size w13) 1).alloc (Nat.le_refl _) _)
                have HXz : Hid (Blk (w13.drew.alloc (.cells #[.string f, .string t] 26)) w13.heap.size 26 (cellsL [(f, t)]).toArray) := Lib.hid (Blk.new _ _ _)
                obtain ⟨q4, hq4⟩ : ∃ q4, w13.heap.size = q4 := ⟨_, rfl⟩
                have HQ4 : Hid (q4 = w13.heap.size) := Lib.hid hq4.symm
                have HXz' : Hid (Blk (w13.drew.alloc (.cells #[.string f, .string t] 26)) q4 26 (cellsL [(f, t)]).toArray) := Lib.hid (hq4 ▸ HXz.out)
                clear HXz
                simp only [hq4]
                clear hq4
                refine hK.out _ _ HBz.out (fun _ => ?_)
                clear hK K
                try simp only [List.getElem_toArray, List.getElem_cons_zero, List.getElem_cons_succ, Act.put, List.setIfInBounds_toArray, List.set_cons_zero, List.set_cons_succ]
                refine wpAnyH_ready (rs := [0]) (by kernel_rfl) (by simp) ?_
                refine AllReadyH.cons rfl (fun K hK => ?_) AllReadyH.nil
                go_simp
                have HBy : Hid (Below w13.heap.size w13 ((w13.drew.alloc (.cells #[.string f, .string t] 26)).alloc (.cells #[] 26))) := Lib.hid (HBz.out.alloc HBz.out.size _)
                have HOy : Hid (Own ((w13.drew.alloc (.cells #[.string f, .string t] 26)).alloc (.cells #[] 26)) w13.heap.size (some ⟨w13.heap.size + 1, 0, none⟩) 0 0 []) := Lib.hid (by
                  have := World.ownsRow_lit (base := w13.heap.size) (e := 26) (size := 2) (w13.drew.alloc (.cells #[.string f, .string t] 26)) #[] 0 HBz.out.size (by decide) rfl
                  have e : (w13.drew.alloc (.cells #[.string f, .string t] 26)).heap.size = w13.heap.size + 1 := by simp
                  rw [e] at this
                  exact this)
                have HXy : Hid (Blk ((w13.drew.alloc (.cells #[.string f, .string t] 26)).alloc (.cells #[] 26)) q4 26 (cellsL [(f, t)]).toArray) := Lib.hid (HXz'.out.alloc _)
                refine hK.out _ _ HBy.out (fun _ => ?_)
                clear hK K
                try simp only [List.getElem_toArray, List.getElem_cons_zero, List.getElem_cons_succ, Act.put, List.setIfInBounds_toArray, List.set_cons_zero, List.set_cons_succ]
                refine wpAnyH_ready (rs := [2]) (by kernel_rfl) (by simp) ?_
                refine AllReadyH.cons rfl (fun K hK => ?_) AllReadyH.nil
                refine wp_appS2 (.tmp 124) (.tmp 125) rfl w13.heap.size (some ⟨w13.heap.size + 1, 0, none⟩) 0 0 [] rfl HOy.out _ A n c L rfl HLN.out (HRL.out _ HBy.out) (by omega) HBy.out.size ?_
                intro A2 c2 w2 ho2 hg2 hb2
                simp only [Nat.zero_add, List.nil_append] at ho2 ⊢
                have HB4 := Lib.hid (HBy.out.trans hb2)
                have HO4 := Lib.hid ho2
                have HX4 : Hid (Blk w2 q4 26 (cellsL [(f, t)]).toArray) := Lib.hid ((hg2.block q4 HXy.out.lt (fun e => by have h1 := HQ4.out; have h2 : q4 = w13.heap.size + 1 := (by injection e); omega)).trans HXy.out)
                clear ho2 hg2 hb2
                refine hK.out _ _ HB4.out (fun _ => ?_)
                clear hK K
                try simp only [List.getElem_toArray, List.getElem_cons_zero, List.getElem_cons_succ, Act.put, List.setIfInBounds_toArray, List.set_cons_zero, List.set_cons_succ]
                refine wpAnyH_ready (rs := [5]) (by kernel_rfl) (by simp) ?_
                refine AllReadyH.cons rfl (fun K hK => ?_) AllReadyH.nil
                refine wp_appS2 (.tmp 126) (.tmp 128) rfl w13.heap.size A2 n c2 L rfl HO4.out (q4 + 1) (some ⟨q4, 0, none⟩) 1 1 [(f, t)] rfl rfl (Rd.blk HX4.out) (by omega) HB4.out.size ?_
                intro A5 c5 w5 ho5 hg5 hb5
                have HB5 := Lib.hid (HB4.out.trans hb5)
                have HO5 := Lib.hid ho5
                clear ho5 hg5 hb5
                refine hK.out _ _ HB5.out (fun _ => ?_)
                clear hK K
                try simp only [List.getElem_toArray, List.getElem_cons_zero, List.getElem_cons_succ, Act.put, List.setIfInBounds_toArray, List.set_cons_zero, List.set_cons_succ]
                refine wpAnyH_ready (rs := [6]) (by kernel_rfl) (by simp) ?_
                refine AllReadyH.cons rfl (fun K hK => ?_) AllReadyH.nil
                go_simp
                refine (HUN.out w5 _ _ _ _ (HO5.out.lower HWS.out) (by omega)).mono ?_
                rintro e w6 ⟨A6, n6, c6, rfl, O6, ho6, hcan6, hcov6, hn6, hb6⟩
                have HB6 := Lib.hid (HB5.out.via hb6)
                have HO6 := Lib.hid (ho6.lower HB5.out.size)
                have HK6 := Lib.hid (And.intro hcan6 hcov6)
                clear ho6 hcan6 hcov6 hb6
                refine hK.out _ _ HB6.out (fun _ => ?_)
                clear hK K
                try simp only [List.getElem_toArray, List.getElem_cons_zero, List.getElem_cons_succ, Act.put, List.setIfInBounds_toArray, List.set_cons_zero, List.set_cons_succ]
                refine wpAnyH_take (i := 7) (v := ?_) rfl (by kernel_rfl) (by kernel_rfl) (by kernel_rfl) (fun _ _ _ h => h) (Or.inl ⟨by rfl, ?_⟩) HB6.out ?_
                rotate_left
                · intro wS hSw
                  go_simp
                  try with_reducible rfl
                try simp only [List.getElem_toArray, List.getElem_cons_zero, List.getElem_cons_succ, Act.put, List.setIfInBounds_toArray, List.set_cons_zero, List.set_cons_succ]
                refine wpAnyH_done (by kernel_rfl) ?_ _
                try go_wp2_with fail
                go_meet
                exact ⟨A6, n6, c6, O6, rfl, HO6, HK6, by omega, HB6⟩
            case rest =>
              obtain ⟨A14, n14, c14, O14, rfl, HO14, HK14, hn14, HB14⟩ := hcut
              obtain ⟨w14', rfl⟩ : ∃ w14', w14' = wc := ⟨_, rfl⟩
              obtain rfl : O14 = O13 := Ord.canon_eq HK14.out.1 HK13.out.1 (fun k => by rw [HK14.out.2, HK13.out.2, Ord.cov_app, Ord.cov_app, HKM.out.2, Ord.cov_one]; dsimp only; cases Ord.cov L k <;> cases Ord.inn f t k <;> rfl)
              obtain rfl : n14 = n13 := HO14.out.len.symm.trans HO13.out.len
              have HKS20 := Lib.hid (HKSx.out.via HB14.out)
              have HS1 := Lib.hid (HSAME.out w14' _ c13 c14 A13 A14 _ HO14.out.len (HO13.out.via HB14.out).rd HO14.out.rd (by omega))
              clear HKSx HRL HLN HSB HWS HO13 HK13 HO14 HK14 HB14
              go_wp2_with fail
              refine HS1.out.mono ?_
              rintro e w21 ⟨rfl, hb21⟩
              have HKS21 := Lib.hid (HKS20.out.via hb21)
              clear HS1 HKS20 hb21
              go_wp2_with fail
              refine (HUN.out w21 _ _ _ _ HKS21.out.u (by omega)).mono ?_
              rintro e w22 ⟨A22, n22, c22, rfl, O22, ho22, hcan22, hcov22, hn22, hb22⟩
              obtain rfl : O22 = Ou := Ord.canon_eq hcan22 HKU.out.1 hcov22
              obtain rfl : n22 = nu := ho22.len.symm.trans HKS21.out.u.len
              have HKS22 := Lib.hid (HKS21.out.via hb22)
              have HS2 := Lib.hid (HSAME.out w22 _ c22 cu A22 Au _ ho22.len ho22.rd HKS22.out.u.rd (by omega))
              clear ho22 hcan22 hcov22 hb22 HKS21
              go_wp2_with fail
              refine HS2.out.mono ?_
              rintro e w23 ⟨rfl, hb23⟩
              have HKS23 := Lib.hid (HKS22.out.via hb23)
              have d0 := HKS23.out.ss.c0
              have d1 := HKS23.out.ss.c1
              clear HS2 HKS22 hb23
              go_wp2_with fail
              refine (HMN.out w23 _ _ _ _ HKS23.out.u (by omega)).mono ?_
              rintro e w24 ⟨A24, n24, c24, rfl, O24, ho24, hcan24, hcov24, hn24, hb24⟩
              obtain rfl : O24 = Om := Ord.canon_eq hcan24 HKM.out.1 (fun k => by rw [hcov24, HKU.out.2, HKM.out.2])
              obtain rfl : n24 = nm := ho24.len.symm.trans HKS23.out.m.len
              have HKS24 := Lib.hid (HKS23.out.via hb24)
              have HS3 := Lib.hid (HSAME.out w24 _ c24 cm A24 Am _ ho24.len ho24.rd HKS24.out.m.rd (by omega))
              clear ho24 hcan24 hcov24 hb24 HKS23 d0 d1
              go_wp2_with fail
              refine HS3.out.mono ?_
              rintro e w25 ⟨rfl, hb25⟩
              have HSS := Lib.hid (HKS24.out.ss.via hb25)
              clear HS3 HKS24 hb25
              go_wp2_with (go_at_call 9; refine (HO.out _).mono ?_; rintro e w26 ⟨rfl, hb26⟩)
              go_ret
              exact ⟨rfl, (HSS.out.via hb26).below⟩
end Cib
