/- All. -/
import Derived.Test.YtmfilmkdaokbbaaCodE
set_option linter.unusedVariables false
set_option linter.unusedSimpArgs false
set_option maxRecDepth 40000
namespace Cib
open Go Go.RowKit Go.Proofs
theorem cdAllNo {w : World} {g gf k m c : Nat} {A : Option Addr} (h : Cdr w g gf k m A c) (L : List RowB) (B : Nat) (A2 : Option Addr) (n c2 : Nat) (hr : Rd w B A2 (L.map RowB.v)) (hl : ∀ r ∈ L, r.bs.length = r.n) (hn : L.length = n) (hn2 : n ≤ maxLen) (hno : ¬ (n = k ∧ Cod.evn (bss L) = true)) :
    Calls Try.prog 23 #[.pointer (some ⟨g, 0, none⟩), .slice A2 n c2] w fun e w' => e = .returned (.tuple #[.slice none 0 0, .int .i64 2]) ∧ w' = w := by
  have HE := Lib.hid (cdEncodeNo h L B A2 n c2 hr hl hn hn2 hno)
  clear h hr hl hn hno
  go_enter Try.func23, Try.ntmps23
  go_wp2_with (go_at_call 21; refine HE.out.mono ?_; rintro e w' ⟨rfl, rfl⟩)
  first | go_ret2 | go_ret
  exact ⟨rfl, rfl⟩
/-- All shards. -/
def Cod.shards (k : Nat) (D : List (List UInt8)) (n : Nat) : List (List UInt8) := (List.range n).map fun i => Cod.shard k D i
theorem Cod.shards_length (k : Nat) (D : List (List UInt8)) (n : Nat) : (Cod.shards k D n).length = n := by simp [Cod.shards]
theorem Cod.shards_data {k m : Nat} {D : List (List UInt8)} (hk : D.length = k) (he : Cod.evn D = true) : D ++ Cod.pars k D m = Cod.shards k D (k + m) := by
  apply List.ext_getElem
  · simp [Cod.pars, Cod.shards, hk]
  · intro i h1 h2
    have hi : i < k + m := by simpa [Cod.shards] using h2
    simp only [Cod.shards, List.getElem_map, List.getElem_range]
    by_cases hlt : i < k
    · rw [List.getElem_append_left (by omega), Cod.shard_data hk hlt he]
    · rw [List.getElem_append_right (by omega)]
      simp only [Cod.pars, List.getElem_map, List.getElem_range]
      rw [show k + (i - D.length) = i from by omega]
/-- All under way: the data rows copied so far, behind the parity. -/
structure AllI (w : World) (D : List (List UInt8)) (p : Nat) (A : Option Addr) (c : Nat) (L : List RowB) (wr : World) : Prop where
  bs : L.map (·.bs) = D.take p
  own : wr.ownsRow w.heap.size 22 1 (.slice A p c) p (L.map RowB.v)
  rows : RowsNew wr w.heap.size L
  below : Below w.heap.size w wr
theorem AllI.push {w wr w2 w3 : World} {p c : Nat} {D : List (List UInt8)} {A A3 : Option Addr} {c3 : Nat} {L : List RowB} (h : AllI w D p A c L wr) {r : RowB} (hp : p < D.length) (hr : r.bs = D[p]) (hb : Below wr.heap.size wr w2)
    (ho : w2.ownsRow wr.heap.size 5 1 (.slice r.A r.n r.c) r.n (r.bs.map bv))
    (ho3 : w3.ownsRow w.heap.size 22 1 (.slice A3 (p + 1) c3) (p + 1) (L.map RowB.v ++ [r.v])) (hg : (w2.alloc (.cells #[r.v] 22)).grownBy w3 (Value.slice A p c).ownBlock) (hb3 : Below w.heap.size (w2.alloc (.cells #[r.v] 22)) w3) :
    AllI w D (p + 1) A3 c3 (L ++ [r]) w3 where
  bs := by rw [List.map_append, h.bs, List.take_succ_eq_append_getElem hp, ← hr]; rfl
  own := by rw [List.map_append]; exact ho3
  rows := ((h.rows.push hb h.below.size ho).below ((Below.refl _ _).alloc (Nat.le_refl _) _)).grown hg ((own_via h.own hb).alloc _) rowNe
  below := ((h.below.via hb).alloc (h.below.via hb).size _).trans hb3
theorem AllI.len {w wr : World} {p c : Nat} {D : List (List UInt8)} {A : Option Addr} {L : List RowB} (h : AllI w D p A c L wr) (hp : p ≤ D.length) : L.length = p := by
  have := congrArg List.length h.bs
  rw [List.length_map, List.length_take] at this
  omega
set_option maxHeartbeats 1600000 in
theorem cdAllR {w : World} {g gf k m c : Nat} {A : Option Addr} (h : Cdr w g gf k m A c) (L : List RowB) (B : Nat) (A2 : Option Addr) (c2 : Nat) (hr : Rd w B A2 (L.map RowB.v)) (hR : RowsAt w B L) (hB : B ≤ w.heap.size) (hn : L.length = k) (hev : Cod.evn (bss L) = true) (hm : ∀ r ∈ L, r.n ≤ 1000000000) :
    Calls Try.prog 23 #[.pointer (some ⟨g, 0, none⟩), .slice A2 k c2] w (NewR (Cod.shards k (bss L) (k + m)) 0 w) := by
  have HE := Lib.hid (cdEncode h L B A2 c2 hr hR hB hn hev hm)
  have HSH : Hid (bss L ++ Cod.pars k (bss L) m = Cod.shards k (bss L) (k + m)) := (show _ = _ from Cod.shards_data (by simpa [bss] using hn) hev)
  have HSL : Hid ((bss L).length = k) := (show _ = _ by simpa [bss] using hn)
  have hk1 := h.hk
  have hkm := h.hs
  have HC := Lib.hid h
  have HR := Lib.hid hr
  have HRR := Lib.hid hR
  have HM := Lib.hid hm
  have HLN := Lib.hid hn
  have hmk : ∀ W : World, (Instr.makeSlice 23 (.int .i64 0) (.int .i64 ((k : Int) + m))).run Try.prog W = .ok (.slice (some ⟨W.heap.size, 0, none⟩) 0 (k + m)) (W.alloc (.cells (madeCells #[.slice none 0 0] (k + m)) 22)) := fun W => by
    have := makeR 0 (k + m) (Nat.zero_le _) (by omega) W
    rw [Int.natCast_add] at this
    exact this
  clear h hr hR hm hn hev
  go_enter Try.func23, Try.ntmps23
  go_wp2_with fail
  refine HE.out.mono ?_
  rintro e w1 ⟨A1, n1, c1, P, rfl, hP, hPn, hPo, hPr, hb1⟩
  have HAL := Lib.hid (cdAll (HC.out.below hb1))
  have HB1 := Lib.hid hb1
  have hz1 := hb1.size
  obtain rfl : n1 = m := by
    have := congrArg List.length hP
    rw [List.length_map, Cod.pars_length] at this
    omega
  have HP := Lib.hid hP
  have HPN := Lib.hid hPn
  have HPO := Lib.hid hPo
  have HPR := Lib.hid hPr
  clear hb1 hP hPn hPo hPr HE
  go_wp2_with (go_at_call 48; refine HAL.out.mono ?_; rintro e w' ⟨rfl, rfl⟩)
  go_loopw [8, 10, 27] (fun l _ i wr => ∃ (p : Nat) (A' : Option Addr) (c' : Nat) (M : List RowB), i = .int .i64 p ∧ p ≤ k ∧ l = .slice A' p c' ∧ Hid (AllI w1 (bss L) p A' c' M wr)) (fun _ _ i _ => k - (intOf i).toNat)
  case atStart =>
    refine ⟨0, some ⟨w1.heap.size, 0, none⟩, k + n1, [], rfl, Nat.zero_le _, rfl, ⟨rfl, ?_, RowsNew.nil, (below_drewN (Below.refl w1.heap.size w1) 1).alloc (Nat.le_refl _) _⟩⟩
    have := own_made w1.drew w1.heap.size 22 (.slice none 0 0) 0 (k + n1) (Nat.le_refl _) (Nat.zero_le _) (by unfold maxLen; omega)
    exact this
  case round =>
    clear HAL hmk
    obtain ⟨p, A', c', M, rfl, hp, rfl, HI⟩ := hrel
    have HBB := Lib.hid (HB1.out.via HI.out.below)
    have HML := Lib.hid (HI.out.len (by rw [HSL.out]; exact hp))
    have hz := HI.out.below.size
    by_cases hlt : p < k
    · have hpl : p < L.length := by rw [HLN.out]; exact hlt
      obtain ⟨ad, rfl, hab, hcell⟩ := (HR.out.below (HBB.out.mono hB)).row hpl
      have hRq := (HRR.out.get hpl).below (HBB.out.mono hB)
      have hmq := HM.out _ (List.getElem_mem hpl)
      have hps : p < (bss L).length := by rw [HSL.out]; exact hlt
      have hbs : Hid (L[p].bs = (bss L)[p]) := (show _ = _ by simp [bss])
      have hrd := hRq.rd
      have hlen := hRq.len
      clear hRq
      generalize L[p] = r at *
      obtain ⟨rA, rn, rc, bs⟩ := r
      simp only at hcell hmq hbs hrd hlen
      have HPU := Lib.hid (fun A3 n3 c3 w2 hb ho A4 c4 w4 ho4 hg4 hb4 => HI.out.push (r := ⟨A3, n3, c3, bs⟩) (w2 := w2) (w3 := w4) (A3 := A4) (c3 := c4) hps hbs.out hb ho ho4 hg4 hb4)
      have HOO := Lib.hid HI.out.own
      have HLE := Lib.hid hlen
      have HRD := Lib.hid hrd
      clear HI hrd hlen hbs hps
      go_wp2_with (first | (at_builtin; refine appB _ rfl (.const (.slice none 0 0)) (.tmp 32) rfl wr.heap.size none 0 0 [] rfl (World.ownsRow_nil _ _ _ _) B rA rn rc (bs.map bv) rfl (by rw [List.length_map]; exact HLE.out) HRD.out one_bytes (by omega) (Nat.le_refl _) ?_; intro A3 c3 w2 ho2 hg2 hb2; rw [Nat.zero_add, List.nil_append] at ho2; rw [Nat.zero_add]; have HO2 := Lib.hid ho2; have HB2 := Lib.hid hb2; have hz2 := hb2.size; clear ho2 hg2 hb2) | (at_builtin; refine appR _ rfl (.tmp 31) (.tmp 34) rfl w1.heap.size A' p c' (M.map RowB.v) rfl ((own_via HOO.out HB2.out).alloc _) _ (some ⟨w2.heap.size, 0, none⟩) 1 1 [.slice A3 rn c3] rfl rfl (Rd.new w2 _ _ _ rfl) (one_rows (L := [⟨A3, rn, c3, []⟩])) (by omega) (by simp; omega) ?_; intro A4 c4 w4 ho4 hg4 hb4))
      go_roundw
      case rel => exact ⟨p + 1, A4, c4, _, by go_num, hlt, rfl, HPU.out A3 rn c3 w2 HB2.out HO2.out A4 c4 w4 ho4 hg4 hb4⟩
      case measure => simp [intOf]; omega
    · obtain rfl : p = k := by omega
      have HBS : Hid (M.map (·.bs) = bss L) := (show _ = _ by rw [HI.out.bs]; exact List.take_of_length_le (by rw [HSL.out]; exact Nat.le_refl _))
      have HOO := Lib.hid (own_lower1 HI.out.own hz1)
      have HRP := Lib.hid ((Rd.of_own HPO.out).below HI.out.below)
      have HRN := Lib.hid ((HPR.out.below HI.out.below).prepend HI.out.rows hz1 HPR.out.lt)
      clear HI
      go_wp2_with (at_builtin; refine appR _ rfl (.tmp 37) (.tmp 38) rfl w.heap.size A' p c' (M.map RowB.v) rfl HOO.out _ A1 n1 c1 (P.map RowB.v) rfl (by rw [List.length_map]; exact HPN.out) HRP.out one_rows (by omega) (Nat.le_trans hz1 hz) ?_; intro A4 c4 w4 ho4 hg4 hb4)
      first | go_ret2 | go_ret
      refine ⟨A4, p + n1, c4, M ++ P, rfl, ?_, ?_, ?_, ?_, ?_⟩
      · rw [List.map_append, HBS.out, HP.out, HSH.out]
      · rw [List.length_append, HML.out, HPN.out]
      · rw [List.map_append]; exact ho4
      · exact HRN.out.grown hg4 HOO.out rowNe
      · exact HBB.out.trans hb4
end Cib
