/- The document's All, Split, Join; what is few; sums of two rows. -/
import Derived.Test.YtoahkanaoapgpaaCodG
set_option linter.unusedVariables false
set_option linter.unusedSimpArgs false
set_option maxRecDepth 40000
namespace Cib
open Go Go.RowKit Go.Proofs
set_option maxHeartbeats 800000 in
theorem refAllNo5 (k m : Int) (L : List RowB) (B : Nat) (A2 : Option Addr) (n c2 : Nat) (w : World) (hr : Rd w B A2 (L.map RowB.v)) (hl : ∀ r ∈ L, r.bs.length = r.n) (hn : L.length = n) (hn2 : n ≤ maxLen) (hB : B ≤ w.heap.size) (hno : ¬ ((n : Int) = k ∧ Cod.evn (bss L) = true)) :
    Calls Try.prog 15 #[.int .i64 k, .int .i64 m, .slice A2 n c2] w fun e w' => e = .returned (.tuple #[.slice none 0 0, .int .i64 2]) ∧ Below w.heap.size w w' := by
  have HE := Lib.hid (refEven5 L B A2 n c2 k w hr hl hn hn2 hB)
  rw [show (decide ((n : Int) = k) && Cod.evn (bss L)) = false from by
    rw [Bool.and_eq_false_iff]
    by_cases hk : (n : Int) = k
    · right
      cases hb : Cod.evn (bss L) with
      | false => rfl
      | true => exact absurd ⟨hk, hb⟩ hno
    · left
      simp [hk]] at HE
  clear hr hl hn hno
  go_enter Try.func15, Try.ntmps15
  go_wp2_with (go_at_call 35; refine HE.out.mono ?_; rintro e w' ⟨rfl, hb⟩)
  first | go_ret2 | go_ret
  exact ⟨rfl, hb⟩
theorem Cod.shards_next (k : Nat) (D : List (List UInt8)) (p : Nat) : Cod.shards k D (p + 1) = Cod.shards k D p ++ [Cod.shard k D p] := by simp [Cod.shards, List.range_succ]
/-- Rows that are made one behind the other. -/
structure MadeI (w : World) (D : List (List UInt8)) (A : Option Addr) (c : Nat) (L : List RowB) (wr : World) : Prop where
  bs : L.map (·.bs) = D
  own : wr.ownsRow w.heap.size 38 1 (.slice A D.length c) D.length (L.map RowB.v)
  rows : RowsNew wr w.heap.size L
  below : Below w.heap.size w wr
theorem MadeI.len {w wr : World} {c : Nat} {D : List (List UInt8)} {A : Option Addr} {L : List RowB} (h : MadeI w D A c L wr) : L.length = D.length := by
  have := congrArg List.length h.bs
  rwa [List.length_map] at this
theorem MadeI.nil (w wr : World) (c : Nat) (hb : Below w.heap.size w wr) : MadeI w [] none 0 [] wr := ⟨rfl, World.ownsRow_nil _ _ _ _, RowsNew.nil, hb⟩
theorem MadeI.keep {w wr w2 : World} {c : Nat} {D : List (List UInt8)} {A : Option Addr} {L : List RowB} (h : MadeI w D A c L wr) (hb : Below wr.heap.size wr w2) : MadeI w D A c L w2 := ⟨h.bs, own_via h.own hb, h.rows.below hb, h.below.via hb⟩
theorem MadeI.push {w wr w2 w3 : World} {c : Nat} {D : List (List UInt8)} {A A3 : Option Addr} {c3 : Nat} {L : List RowB} (h : MadeI w D A c L wr) {r : RowB} {x : List UInt8} (hr : r.bs = x) (hb : Below wr.heap.size wr w2)
    (ho : w2.ownsRow wr.heap.size 5 1 (.slice r.A r.n r.c) r.n (r.bs.map bv))
    (ho3 : w3.ownsRow w.heap.size 38 1 (.slice A3 (D.length + 1) c3) (D.length + 1) (L.map RowB.v ++ [r.v])) (hg : (w2.alloc (.cells #[r.v] 38)).grownBy w3 (Value.slice A D.length c).ownBlock) (hb3 : Below w.heap.size (w2.alloc (.cells #[r.v] 38)) w3) :
    MadeI w (D ++ [x]) A3 c3 (L ++ [r]) w3 where
  bs := by rw [List.map_append, h.bs, ← hr]; rfl
  own := by rw [List.map_append, List.length_append]; exact ho3
  rows := ((h.rows.push hb h.below.size ho).below ((Below.refl _ _).alloc (Nat.le_refl _) _)).grown hg ((own_via h.own hb).alloc _) rowNe
  below := ((h.below.via hb).alloc (h.below.via hb).size _).trans hb3
set_option maxHeartbeats 1600000 in
theorem refAll5 (k m : Nat) (L : List RowB) (B : Nat) (A2 : Option Addr) (c2 : Nat) (w : World) (hr : Rd w B A2 (L.map RowB.v)) (hR : RowsAt w B L) (hB : B ≤ w.heap.size) (hn : L.length = k) (hk : 1 ≤ k) (hkm : k + m ≤ 255) (hev : Cod.evn (bss L) = true) (hm : ∀ r ∈ L, r.n ≤ 1000000000) :
    Calls Try.prog 15 #[.int .i64 (k : Int), .int .i64 (m : Int), .slice A2 k c2] w (NewR (Cod.shards k (bss L) (k + m)) 0 w) := by
  have HE := Lib.hid (refEven5 L B A2 k c2 (k : Int) w hr hR.lens hn (by unfold maxLen; omega) hB)
  rw [show (decide ((k : Int) = (k : Int)) && Cod.evn (bss L)) = true from by rw [decide_eq_true rfl]; exact hev] at HE
  have HSH := Lib.hid (fun (p : Nat) (hp : p < k + m) (W : World) (hb : Below w.heap.size w W) => refShard5 L B A2 k c2 p W (hr.below (hb.mono hB)) (fun r hr => (hR r hr).below (hb.mono hB)) (Nat.le_trans hB hb.size) hn hk (by omega) hev hm (by omega))
  clear hr hR hn hev hm
  go_enter Try.func15, Try.ntmps15
  go_wp2_with (go_at_call 35; refine HE.out.mono ?_; rintro e w1 ⟨rfl, hb1⟩)
  go_loopw [8, 9] (fun l i wr => ∃ (p : Nat) (A' : Option Addr) (c' : Nat) (M : List RowB), i = .int .i64 p ∧ p ≤ k + m ∧ l = .slice A' p c' ∧ Hid (MadeI w (Cod.shards k (bss L) p) A' c' M wr)) (fun _ i _ => k + m - (intOf i).toNat)
  case atStart => exact ⟨0, none, 0, [], rfl, Nat.zero_le _, rfl, MadeI.nil w w1 0 hb1⟩
  case round =>
    clear HE
    obtain ⟨p, A', c', M, rfl, hp, rfl, HI⟩ := hrel
    have HML := Lib.hid HI.out.len
    rw [Cod.shards_length] at HML
    have hz := HI.out.below.size
    by_cases hlt : p < k + m
    · have HS1 := Lib.hid (HSH.out p hlt wr HI.out.below)
      have hlt' : (p : Int) < (k : Int) + (m : Int) := by omega
      have HPU := Lib.hid (fun A3 n3 c3 w2 hb ho A4 c4 w4 ho4 hg4 hb4 => HI.out.push (x := Cod.shard k (bss L) p) (r := ⟨A3, n3, c3, Cod.shard k (bss L) p⟩) (w2 := w2) (w3 := w4) (A3 := A4) (c3 := c4) rfl hb ho ho4 hg4 hb4)
      rw [Cod.shards_length, ← Cod.shards_next] at HPU
      have HOO := Lib.hid HI.out.own
      rw [Cod.shards_length] at HOO
      clear HI
      go_wp2_with fail
      refine HS1.out.mono ?_
      rintro e w2 ⟨A3, n3, c3, rfl, hn3, ho3, hb3⟩
      have HO3 := Lib.hid ho3
      have HB3 := Lib.hid hb3
      have hz3 := hb3.size
      clear ho3 hb3
      go_wp2_with (at_builtin; refine appR _ rfl (.tmp 21) (.tmp 25) rfl w.heap.size A' p c' (M.map RowB.v) rfl ((own_via HOO.out HB3.out).alloc _) _ (some ⟨w2.heap.size, 0, none⟩) 1 1 [.slice A3 n3 c3] rfl rfl (Rd.new w2 _ _ _ rfl) (one_rows (L := [⟨A3, n3, c3, []⟩])) (by omega) (by simp; omega) ?_; intro A4 c4 w4 ho4 hg4 hb4)
      go_roundw
      case rel => exact ⟨p + 1, A4, c4, _, by go_num, hlt, rfl, HPU.out A3 n3 c3 w2 HB3.out HO3.out A4 c4 w4 ho4 hg4 hb4⟩
      case measure => simp [intOf]; omega
    · obtain rfl : p = k + m := by omega
      have hI := HI.out
      have hlt' : ¬ ((k + m : Nat) : Int) < (k : Int) + (m : Int) := by omega
      have ho := hI.own
      rw [Cod.shards_length] at ho
      go_wp2
      first | go_ret2 | go_ret
      exact ⟨A', _, c', M, rfl, hI.bs, HML.out, ho, hI.rows, hI.below⟩
theorem below_of_drew {B : Nat} {w w' : World} (h : Below B w w') : Below B w.drew w' := ⟨h.os, h.tape, h.output, h.size, h.block⟩
/-- The sum of two rows, as far as both go. -/
def addB (a b : List UInt8) : List UInt8 := List.zipWith (fun x y => UInt8.ofNat (x.toNat ^^^ y.toNat)) a b
theorem addB_length (a b : List UInt8) : (addB a b).length = min a.length b.length := by simp [addB]
theorem addB_take (a b : List UInt8) {q : Nat} (h1 : q < a.length) (h2 : q < b.length) : (addB a b).take (q + 1) = (addB a b).take q ++ [UInt8.ofNat (a[q].toNat ^^^ b[q].toNat)] := by
  rw [List.take_succ_eq_append_getElem (by rw [addB_length]; omega)]
  simp [addB]
set_option maxHeartbeats 800000 in
theorem lawAdded5 (A1 A2 : Option Addr) (n1 c1 n2 c2 : Nat) (a b : List UInt8) (B : Nat) (w : World) (h1 : Rd w B A1 (a.map bv)) (h2 : Rd w B A2 (b.map bv)) (hn1 : a.length = n1) (hn2 : b.length = n2) (hB : B ≤ w.heap.size) (hl1 : n1 ≤ 1000000000) (hl2 : n2 ≤ 1000000000) :
    Calls Try.prog 18 #[.slice A1 n1 c1, .slice A2 n2 c2] w (NewB (addB a b) w) := by
  have H1 := Lib.hid h1
  have H2 := Lib.hid h2
  have HN1 := Lib.hid hn1
  have HN2 := Lib.hid hn2
  have HLL : Hid ((addB a b).length = min n1 n2) := (show _ = _ by rw [addB_length, hn1, hn2])
  clear h1 h2 hn1 hn2
  go_enter Try.func18, Try.ntmps18
  go_wp2
  go_loopw [5, 6] (fun l i wr => ∃ (q : Nat) (A : Option Addr) (c : Nat), i = .int .i64 q ∧ q ≤ n1 ∧ q ≤ n2 ∧ l = .slice A q c ∧ Hid (wr.ownsRow w.heap.size 5 1 (.slice A q c) q (((addB a b).take q).map bv)) ∧ Hid (Below w.heap.size w wr)) (fun _ i _ => n1 - (intOf i).toNat)
  case atStart => exact ⟨0, none, 0, rfl, Nat.zero_le _, Nat.zero_le _, rfl, World.ownsRow_nil _ _ _ _, Below.refl _ _⟩
  case round =>
    obtain ⟨q, A, c, rfl, hq1, hq2, rfl, HO, HB1⟩ := hrel
    have hz := HB1.out.size
    by_cases hlt1 : q < n1
    · by_cases hlt2 : q < n2
      · have hqa : q < a.length := by rw [HN1.out]; exact hlt1
        have hqb : q < b.length := by rw [HN2.out]; exact hlt2
        obtain ⟨ad1, rfl, hab1, hc1⟩ := (H1.out.below (HB1.out.mono hB)).byte hqa
        obtain ⟨ad2, rfl, hab2, hc2⟩ := (H2.out.below (HB1.out.mono hB)).byte hqb
        have HNX := Lib.hid (addB_take a b hqa hqb)
        have hd1 := a[q].toNat_lt
        have hd2 := b[q].toNat_lt
        have hx := u8_xor_nat _ _ hd1 hd2
        obtain ⟨z, hz8, hzn⟩ := byte_mk (Fld.xor_lt hd1 hd2)
        rw [hz8.out] at HNX
        rw [hzn] at hx
        generalize a[q].toNat = x1 at *
        generalize b[q].toNat = x2 at *
        have hca : wr.drew.cell? (ad1.add q) = some (.int .u8 (x1 : Int)) := hc1
        have hcb : wr.drew.cell? (ad2.add q) = some (.int .u8 (x2 : Int)) := hc2
        have hg1 : (ad1.add q).block < w.heap.size := by rw [addr_add_block]; omega
        have hg2 : (ad2.add q).block < w.heap.size := by rw [addr_add_block]; omega
        clear hc1 hc2 hz8 hzn
        go_wp2
        refine wp_region_held_drew (S := (fun wQq => Below w.heap.size wr.drew wQq)) (by kernel_rfl) (Below.refl _ _) (fun _ => ?_)
        refine wpAnyH_take (i := 0) (v := ?_) rfl (by kernel_rfl) (by kernel_rfl) (by kernel_rfl) (fun _ _ _ h => h) (Or.inl ⟨by rfl, ?_⟩) (Below.refl _ _) ?_
        rotate_left
        · intro wS hSw
          go_simp
          try with_reducible rfl
        try simp only [List.getElem_toArray, List.getElem_cons_zero, List.getElem_cons_succ, Act.put, List.setIfInBounds_toArray, List.set_cons_zero, List.set_cons_succ]
        refine wpAnyH_take (i := 1) (v := ?_) rfl (by kernel_rfl) (by kernel_rfl) (by kernel_rfl) (fun _ _ _ h => h) (Or.inl ⟨by rfl, ?_⟩) (Below.refl _ _) ?_
        rotate_left
        · intro wS hSw
          go_simp
          try with_reducible rfl
        try simp only [List.getElem_toArray, List.getElem_cons_zero, List.getElem_cons_succ, Act.put, List.setIfInBounds_toArray, List.set_cons_zero, List.set_cons_succ]
        refine wpAnyH_take (i := 2) (v := ?_) rfl (by kernel_rfl) (by kernel_rfl) (by kernel_rfl) (fun _ _ _ h => h) (Or.inl ⟨by rfl, ?_⟩) (Below.refl _ _) ?_
        rotate_left
        · intro wS hSw
          go_simp
          try with_reducible rfl
        try simp only [List.getElem_toArray, List.getElem_cons_zero, List.getElem_cons_succ, Act.put, List.setIfInBounds_toArray, List.set_cons_zero, List.set_cons_succ]
        refine wpAnyH_take (i := 3) (v := ?_) rfl (by kernel_rfl) (by kernel_rfl) (by kernel_rfl) (fun _ _ _ h => h) (Or.inl ⟨by rfl, ?_⟩) (Below.refl _ _) ?_
        rotate_left
        · intro wS hSw
          go_simp
          try with_reducible rfl
        try simp only [List.getElem_toArray, List.getElem_cons_zero, List.getElem_cons_succ, Act.put, List.setIfInBounds_toArray, List.set_cons_zero, List.set_cons_succ]
        refine wpAnyH_take (i := 5) (v := ?_) rfl (by kernel_rfl) (by kernel_rfl) (by kernel_rfl) (fun _ _ _ h => h) (Or.inl ⟨by rfl, ?_⟩) (Below.refl _ _) ?_
        rotate_left
        · intro wS hSw
          go_simp
          try with_reducible rfl
        try simp only [List.getElem_toArray, List.getElem_cons_zero, List.getElem_cons_succ, Act.put, List.setIfInBounds_toArray, List.set_cons_zero, List.set_cons_succ]
        refine wpAnyH_take (i := 6) (v := ?_) rfl (by kernel_rfl) (by kernel_rfl) (by kernel_rfl) (fun _ _ _ h => h) (Or.inl ⟨by rfl, ?_⟩) (Below.refl _ _) ?_
        rotate_left
        · intro wS hSw
          go_simp
          try with_reducible rfl
        try simp only [List.getElem_toArray, List.getElem_cons_zero, List.getElem_cons_succ, Act.put, List.setIfInBounds_toArray, List.set_cons_zero, List.set_cons_succ]
        refine wpAnyH_take (i := 7) (v := ?_) rfl (by kernel_rfl) (by kernel_rfl) (by kernel_rfl) (fun _ _ _ h => h) (Or.inl ⟨by rfl, ?_⟩) (Below.refl _ _) ?_
        rotate_left
        · intro wS hSw
          go_simp
          try with_reducible rfl
        try simp only [List.getElem_toArray, List.getElem_cons_zero, List.getElem_cons_succ, Act.put, List.setIfInBounds_toArray, List.set_cons_zero, List.set_cons_succ]
        refine wpAnyH_take (i := 4) (v := ?_) rfl (by kernel_rfl) (by kernel_rfl) (by kernel_rfl) (fun _ _ _ h => h) (Or.inl ⟨by rfl, ?_⟩) (Below.refl _ _) ?_
        rotate_left
        · intro wS hSw
          have hcv := ((hSw.cell (p := ad1.add q) hg1).trans hca)
          go_simp
          try with_reducible rfl
        try simp only [List.getElem_toArray, List.getElem_cons_zero, List.getElem_cons_succ, Act.put, List.setIfInBounds_toArray, List.set_cons_zero, List.set_cons_succ]
        refine wpAnyH_take (i := 8) (v := ?_) rfl (by kernel_rfl) (by kernel_rfl) (by kernel_rfl) (fun _ _ _ h => h) (Or.inl ⟨by rfl, ?_⟩) (Below.refl _ _) ?_
        rotate_left
        · intro wS hSw
          have hcv := ((hSw.cell (p := ad2.add q) hg2).trans hcb)
          go_simp
          try with_reducible rfl
        try simp only [List.getElem_toArray, List.getElem_cons_zero, List.getElem_cons_succ, Act.put, List.setIfInBounds_toArray, List.set_cons_zero, List.set_cons_succ]
        refine wpAnyH_take (i := 9) (v := ?_) rfl (by kernel_rfl) (by kernel_rfl) (by kernel_rfl) (fun _ _ _ h => h) (Or.inl ⟨by rfl, ?_⟩) (Below.refl _ _) ?_
        rotate_left
        · intro wS hSw
          go_simp
          try with_reducible rfl
        try simp only [List.getElem_toArray, List.getElem_cons_zero, List.getElem_cons_succ, Act.put, List.setIfInBounds_toArray, List.set_cons_zero, List.set_cons_succ]
        refine wpAnyH_ready (rs := [10]) (by kernel_rfl) (by simp) ?_
        refine AllReadyH.cons rfl (fun K hK => ?_) AllReadyH.nil
        go_simp
        refine hK.out _ _ (below_of_drew (below_drewN ((Below.refl w.heap.size wr).alloc hz _) 1)) (fun _ => ?_)
        clear hK K
        try simp only [List.getElem_toArray, List.getElem_cons_zero, List.getElem_cons_succ, Act.put, List.setIfInBounds_toArray, List.set_cons_zero, List.set_cons_succ]
        refine wpAnyH_ready (rs := [11]) (by kernel_rfl) (by simp) ?_
        refine AllReadyH.cons rfl (fun K hK => ?_) AllReadyH.nil
        refine wp_appB (.tmp 19) (.tmp 29) rfl w.heap.size A q c (((addB a b).take q).map bv) rfl (HO.out.alloc _) _ (some ⟨wr.heap.size, 0, none⟩) 1 1 [bv z] rfl rfl (Rd.new wr _ _ _ rfl).drew one_byte (by omega) (by simp; omega) ?_
        intro A3 c3 w3 ho3 hg3 hb3
        refine hK.out _ _ (below_of_drew ((below_drewN ((Below.refl w.heap.size wr).alloc hz _) 1).trans hb3)) (fun _ => ?_)
        clear hK K
        try simp only [List.getElem_toArray, List.getElem_cons_zero, List.getElem_cons_succ, Act.put, List.setIfInBounds_toArray, List.set_cons_zero, List.set_cons_succ]
        refine wpAnyH_take (i := 12) (v := ?_) rfl (by kernel_rfl) (by kernel_rfl) (by kernel_rfl) (fun _ _ _ h => h) (Or.inl ⟨by rfl, ?_⟩) (below_of_drew ((below_drewN ((Below.refl w.heap.size wr).alloc hz _) 1).trans hb3)) ?_
        rotate_left
        · intro wS hSw
          go_simp
          try with_reducible rfl
        try simp only [List.getElem_toArray, List.getElem_cons_zero, List.getElem_cons_succ, Act.put, List.setIfInBounds_toArray, List.set_cons_zero, List.set_cons_succ]
        refine wpAnyH_done (by kernel_rfl) ?_ _
        go_wp2
        go_roundw
        case rel => exact ⟨q + 1, A3, c3, by go_num, hlt1, hlt2, rfl, (show World.ownsRow _ _ _ _ _ _ _ by rw [HNX.out, List.map_append]; exact ho3), (below_drewN (HB1.out.alloc hz _) 1).trans hb3⟩
        case measure => simp [intOf]; omega
      · have HT : Hid ((addB a b).take q = addB a b) := (show _ = _ from List.take_of_length_le (by rw [HLL.out]; omega))
        have HLQ : Hid ((addB a b).length = q) := (show _ = _ by rw [HLL.out]; omega)
        rw [HT.out] at HO
        go_wp2
        go_ret
        exact ⟨A, q, c, rfl, HLQ.out, HO.out, HB1.out⟩
    · have HT : Hid ((addB a b).take q = addB a b) := (show _ = _ from List.take_of_length_le (by rw [HLL.out]; omega))
      have HLQ : Hid ((addB a b).length = q) := (show _ = _ by rw [HLL.out]; omega)
      rw [HT.out] at HO
      go_wp2
      go_ret
      exact ⟨A, q, c, rfl, HLQ.out, HO.out, HB1.out⟩
/-- What is left of 3000 bytes behind some rows. -/
def leftTo (l : List Nat) : Nat → Int
  | 0 => 3000
  | p + 1 => leftTo l p - (min (l.getD p 0) 4000 : Nat)
/-- Few rows, and short ones? -/
def fewB (l : List Nat) : Bool := decide (l.length ≤ 260) && decide (0 ≤ leftTo l l.length)
theorem leftTo_le (l : List Nat) : ∀ p, leftTo l p ≤ 3000 ∧ -4000 * (p : Int) ≤ leftTo l p
  | 0 => by simp [leftTo]
  | p + 1 => by
    have := leftTo_le l p
    simp only [leftTo]
    omega
theorem leftTo_all (l : List Nat) : ∀ p, 0 ≤ leftTo l p → ∀ j, j < p → l.getD j 0 ≤ 3000
  | 0, _, j, hj => by omega
  | p + 1, h, j, hj => by
    have h1 := (leftTo_le l p).1
    simp only [leftTo] at h
    by_cases hjp : j = p
    · subst hjp
      omega
    · exact leftTo_all l p (by omega) j (by omega)
theorem fewB_true {l : List Nat} (h : fewB l = true) : l.length ≤ 260 ∧ ∀ x ∈ l, x ≤ 3000 := by
  simp only [fewB, Bool.and_eq_true, decide_eq_true_eq] at h
  refine ⟨h.1, fun x hx => ?_⟩
  obtain ⟨j, hj, rfl⟩ := List.mem_iff_getElem.1 hx
  have := leftTo_all l _ h.2 j hj
  simpa [List.getD, hj] using this
/-- The rows' lengths. -/
def lns (L : List RowB) : List Nat := L.map (·.n)
set_option maxHeartbeats 800000 in
theorem lawFew5 (v : Value) (L : List RowB) (B : Nat) (A : Option Addr) (n k : Nat) (w : World) (hr : Rd w B A (L.map RowB.v)) (hn : L.length = n) (hn2 : n ≤ maxLen) (hm : ∀ r ∈ L, r.n ≤ maxLen) :
    Calls Try.prog 11 #[v, .slice A n k] w fun e w' => e = .returned (.bool (fewB (lns L))) ∧ w' = w := by
  unfold maxLen at hn2 hm
  have HR := Lib.hid hr
  have HN := Lib.hid hn
  have HM := Lib.hid hm
  have HLL : Hid ((lns L).length = n) := (show _ = _ by simp [lns, hn])
  obtain ⟨F, hF⟩ : ∃ F, Hid (fewB (lns L) = F) := ⟨_, rfl⟩
  rw [hF.out]
  clear hr hn hm
  go_enter Try.func11, Try.ntmps11
  go_wp2
  go_loopw [5, 6] (fun l i wr => ∃ (p : Nat) (x : Int), i = .int .i64 p ∧ p ≤ n ∧ p ≤ 300 ∧ l = .int .i64 x ∧ x ≤ 3000 ∧ -4000 * (p : Int) ≤ x ∧ wr = w ∧ Hid (x = leftTo (lns L) p)) (fun _ i _ => n - (intOf i).toNat)
  case atStart => exact ⟨0, 3000, rfl, Nat.zero_le _, by omega, rfl, by omega, by omega, rfl, rfl⟩
  case round =>
    obtain ⟨p, x, rfl, hp, hp3, rfl, hx1, hx2, rfl, HI⟩ := hrel
    by_cases hlt : p < n
    · by_cases h300 : p < 300
      · have hpl : p < L.length := by rw [HN.out]; exact hlt
        obtain ⟨ad, rfl, hab, hcell⟩ := HR.out.row hpl
        have hmq := HM.out _ (List.getElem_mem hpl)
        have HNX : Hid (leftTo (lns L) (p + 1) = x - (min L[p].n 4000 : Nat)) := by
          show _ = _
          rw [leftTo, ← HI.out]
          simp [lns, List.getD, hpl]
        generalize L[p] = r at *
        by_cases h4 : 4000 < r.n
        · have HNY : Hid (x - 4000 = leftTo (lns L) (p + 1)) := (show _ = _ by rw [HNX.out]; omega)
          clear HNX HI
          go_wp2
          go_roundw
          case rel => exact ⟨p + 1, x - 4000, by go_num, hlt, h300, rfl, by omega, by omega, by first | rfl | trivial, HNY⟩
          case measure => simp [intOf]; omega
        · have HNY : Hid (x - (r.n : Int) = leftTo (lns L) (p + 1)) := (show _ = _ by rw [HNX.out]; omega)
          clear HNX HI
          go_wp2
          go_roundw
          case rel => exact ⟨p + 1, x - (r.n : Int), by go_num, hlt, h300, rfl, by omega, by omega, by first | rfl | trivial, HNY⟩
          case measure => simp [intOf]; omega
      · have hb : decide ((p : Int) < 300) = false := by simp; omega
        have hn3 : ¬ n ≤ 260 := by omega
        obtain rfl : false = F := by rw [← hF.out]; simp [fewB, HLL.out, hn3]
        go_wp2
        go_ret
        exact ⟨rfl, rfl⟩
    · obtain rfl : p = n := by omega
      by_cases hn260 : p ≤ 260
      · by_cases h0 : 0 ≤ x
        · obtain rfl : true = F := by rw [← hF.out]; simp [fewB, HLL.out, hn260, ← HI.out, h0]
          go_wp2
          go_ret
          exact ⟨rfl, rfl⟩
        · obtain rfl : false = F := by rw [← hF.out]; simp [fewB, HLL.out, ← HI.out]; omega
          have h0' : decide (0 ≤ x) = false := by simp; omega
          go_wp2
          go_ret
          exact ⟨rfl, rfl⟩
      · obtain rfl : false = F := by rw [← hF.out]; simp [fewB, HLL.out, hn260]
        go_wp2
        go_ret
        exact ⟨rfl, rfl⟩
end Cib
