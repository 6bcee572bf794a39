/- The law CodeEncodes. -/
import Derived.Test.YtoahkanaoapgpaaCodL
set_option linter.unusedVariables false
set_option linter.unusedSimpArgs false
set_option maxRecDepth 40000
namespace Cib
open Go Go.RowKit Go.Proofs
theorem run_cut_fromR {P : Program} (t e : TypeId) (ht : P.underlying t = some (.slice e)) (hs : (P.info? e).map (·.size) = some 1) (A : Option Addr) (n c k : Nat) (kd : IntKind) (hk : k ≤ n) (w : World) :
    (Instr.slice t (.slice A n c) (some (.int kd (k : Int))) none none).run P w = .ok (.slice (cut A c k) (n - k) (c - k)) w := run_cut_from t e ht hs A n c k kd hk w
theorem RowsAt.drop {w : World} {B : Nat} {L : List RowB} (h : RowsAt w B L) (k : Nat) : RowsAt w B (L.drop k) := fun r hr => h r (List.mem_of_mem_drop hr)
theorem Cod.shards_drop (k m : Nat) (D : List (List UInt8)) : (Cod.shards k D (k + m)).drop k = Cod.pars k D m := by
  apply List.ext_getElem
  · simp [Cod.shards, Cod.pars]
  · intro i h1 h2
    simp [Cod.shards, Cod.pars]
set_option maxHeartbeats 3200000 in
theorem lawEncodes (k m : Int) (L : List RowB) (A : Option Addr) (n c : Nat) (w : World) (hk : -9223372036854775808 ≤ k ∧ k ≤ 9223372036854775807) (hm : -9223372036854775808 ≤ m ∧ m ≤ 9223372036854775807) (hr : Rd w w.heap.size A (L.map RowB.v)) (hR : RowsAt w w.heap.size L) (hn : L.length = n) (hc : n ≤ c) (hcm : c ≤ maxLen) :
    Calls Try.prog 3 #[.int .i64 k, .int .i64 m, .slice A n c] w fun e w' => e = .returned (.bool true) ∧ Below w.heap.size w w' := by
  have HMAY := Lib.hid (fun W => refMay5 k m hk hm W)
  have hnm : n ≤ maxLen := Nat.le_trans hc hcm
  have HFEW := Lib.hid (fun (W : World) (hb : Below w.heap.size w W) => lawFew5 (.int .i64 0) L w.heap.size A n c W (hr.below hb) hn hnm (fun r hr => Nat.le_trans (hR r hr).cap (hR r hr).max))
  obtain ⟨F, hF⟩ : ∃ F, Hid (fewB (lns L) = F) := ⟨_, rfl⟩
  rw [hF.out] at HFEW
  by_cases hmay : mayC k m
  · rw [mayB_true.2 hmay] at HMAY
    obtain ⟨hm1, hm2, hm3, hm4⟩ := hmay
    obtain ⟨k, rfl⟩ : ∃ n : Nat, k = (n : Int) := ⟨k.toNat, by omega⟩
    obtain ⟨m, rfl⟩ : ∃ n : Nat, m = (n : Int) := ⟨m.toNat, by omega⟩
    have hs : k + m ≤ 255 := by omega
    have hwkm : IntKind.i64.wrap ((k : Int) + (m : Int)) = (k : Int) + (m : Int) := by rw [IntKind.wrap_i64]; omega
    have HN := Lib.hid (fun W h => cdNew w.heap.size k m (by omega) (by omega) hs W h)
    by_cases h24 : 24 < (k : Int) + m
    · clear hr hR hn hF hk hm
      go_enter Try.func3, Try.ntmps3
      go_wp2_with fail
      refine (fldNewA _).mono ?_
      rintro e w1 ⟨rfl, hf, hz, hb0⟩
      have hb1 := hb0 w.heap.size w (Nat.le_refl _) (Below.refl _ _)
      clear hb0 hz
      go_wp2_with fail
      refine (HN.out w1 hf).mono ?_
      rintro e w2 ⟨g, A1, c1, rfl, hg, hC, hs2⟩
      have HB2 := Lib.hid (hs2.below hb1 (Nat.le_refl _) hb1.size)
      clear hs2 hb1 hg hC hf
      go_wp2_with fail
      refine (HMAY.out _).mono ?_
      rintro e w3 ⟨rfl, rfl⟩
      go_wp2_with fail
      refine (codes _).mono ?_
      rintro e w4 ⟨rfl, hb4⟩
      have HB4 := Lib.hid (HB2.out.via hb4)
      clear hb4
      go_wp2
      go_ret
      exact ⟨rfl, HB4.out⟩
    · rcases F with _ | _
      · clear hr hR hn hF hk hm
        go_enter Try.func3, Try.ntmps3
        go_wp2_with fail
        refine (fldNewA _).mono ?_
        rintro e w1 ⟨rfl, hf, hz, hb0⟩
        have hb1 := hb0 w.heap.size w (Nat.le_refl _) (Below.refl _ _)
        clear hb0 hz
        go_wp2_with fail
        refine (HN.out w1 hf).mono ?_
        rintro e w2 ⟨g, A1, c1, rfl, hg, hC, hs2⟩
        have HB2 := Lib.hid (hs2.below hb1 (Nat.le_refl _) hb1.size)
        clear hs2 hb1 hg hC hf
        go_wp2_with fail
        refine (HMAY.out _).mono ?_
        rintro e w3 ⟨rfl, rfl⟩
        go_wp2_with fail
        refine (HFEW.out _ HB2.out).mono ?_
        rintro e w4 ⟨rfl, rfl⟩
        go_wp2_with fail
        refine (codes _).mono ?_
        rintro e w5 ⟨rfl, hb5⟩
        have HB5 := Lib.hid (HB2.out.via hb5)
        clear hb5
        go_wp2
        go_ret
        exact ⟨rfl, HB5.out⟩
      · obtain ⟨hl1, hl2⟩ := fewB_true hF.out
        have hl1' : n ≤ 260 := by simpa [lns, hn] using hl1
        have hmr : ∀ r ∈ L, r.n ≤ 1000000000 := fun r hr => by
          have := hl2 r.n (List.mem_map.2 ⟨r, hr, rfl⟩)
          omega
        have HR := Lib.hid hr
        have HRR := Lib.hid hR
        have HLN := Lib.hid hn
        have HMR := Lib.hid hmr
        clear hr hR hn hF hk hm hl1 hl2 hmr
        go_enter Try.func3, Try.ntmps3
        go_wp2_with fail
        refine (fldNewA _).mono ?_
        rintro e w1 ⟨rfl, hf, hz, hb0⟩
        have hb1 := hb0 w.heap.size w (Nat.le_refl _) (Below.refl _ _)
        clear hb0 hz
        go_wp2_with fail
        refine (HN.out w1 hf).mono ?_
        rintro e w2 ⟨g, A1, c1, rfl, hg, hC, hs2⟩
        have HB2 := Lib.hid (hs2.below hb1 (Nat.le_refl _) hb1.size)
        have HC2 := Lib.hid hC
        clear hs2 hb1 hg hC hf
        go_wp2_with fail
        refine (HMAY.out _).mono ?_
        rintro e w3 ⟨rfl, rfl⟩
        go_wp2_with fail
        refine (HFEW.out _ HB2.out).mono ?_
        rintro e w4 ⟨rfl, rfl⟩
        clear HMAY HFEW HN
        have HB2 := Lib.hid HB2.out
        by_cases hok : n = k ∧ Cod.evn (bss L) = true
        · obtain ⟨hnk, hev⟩ := hok
          subst hnk
          have HEV := Lib.hid hev
          clear hev
          go_wp2_with fail
          refine (cdAllR HC2.out L w.heap.size A c (HR.out.below HB2.out) (fun r hr => (HRR.out r hr).below HB2.out) HB2.out.size HLN.out HEV.out HMR.out).mono ?_
          rintro e w5 ⟨A5, n5, c5, L5, rfl, hL5, hn5, ho5, hR5, hb5⟩
          obtain rfl : n5 = n + m := by
            have := congrArg List.length hL5
            rw [List.length_map, Cod.shards_length] at this
            omega
          have HC5 := Lib.hid (HC2.out.below hb5)
          have HB5 := Lib.hid (HB2.out.via hb5)
          have HL5 := Lib.hid hL5
          have HN5 := Lib.hid hn5
          have HP5 := Lib.hid (Rd.of_own ho5)
          have HQ5 := Lib.hid hR5.at
          clear ho5 hR5 hb5 HB2 HC2 hL5 hn5
          go_wp2_with fail
          refine (cdEncode HC5.out L w.heap.size A c (HR.out.below HB5.out) (fun r hr => (HRR.out r hr).below HB5.out) HB5.out.size HLN.out HEV.out HMR.out).mono ?_
          rintro e w6 ⟨A6, n6, c6, L6, rfl, hL6, hn6, ho6, hR6, hb6⟩
          obtain rfl : n6 = m := by
            have := congrArg List.length hL6
            rw [List.length_map, Cod.pars_length] at this
            omega
          have HB6 := Lib.hid (HB5.out.via hb6)
          have HZ56 := Lib.hid hb6.size
          have HL6 := Lib.hid hL6
          have HN6 := Lib.hid hn6
          have HP5 := Lib.hid (HP5.out.below hb6)
          have HQ5 : Hid (RowsAt w6 w5.heap.size L5) := fun r hr => (HQ5.out r hr).below hb6
          have HP6 := Lib.hid (Rd.of_own ho6)
          have HQ6 := Lib.hid hR6.at
          clear ho6 hR6 hb6 HB5 HC5 hL6 hn6
          go_wp2_with fail
          refine (refAll5 n n6 L w.heap.size A c _ (HR.out.below HB6.out) (fun r hr => (HRR.out r hr).below HB6.out) HB6.out.size HLN.out (by omega) hs HEV.out HMR.out).mono ?_
          rintro e w7 ⟨A7, n7, c7, L7, rfl, hL7, hn7, ho7, hR7, hb7⟩
          obtain rfl : n7 = n + n6 := by
            have := congrArg List.length hL7
            rw [List.length_map, Cod.shards_length] at this
            omega
          have HB7 := Lib.hid (HB6.out.via hb7)
          have HP5 := Lib.hid ((HP5.out.below (hb7.mono HZ56.out)).more (Nat.le_trans HZ56.out hb7.size))
          have HQ5 : Hid (RowsAt w7 w7.heap.size L5) := fun r hr => ((HQ5.out r hr).below (hb7.mono HZ56.out)).more (Nat.le_trans HZ56.out hb7.size)
          have HP6 := Lib.hid ((HP6.out.below hb7).more hb7.size)
          have HQ6 : Hid (RowsAt w7 w7.heap.size L6) := fun r hr => ((HQ6.out r hr).below hb7).more hb7.size
          have HP7 := Lib.hid (Rd.of_own ho7)
          have HQ7 := Lib.hid hR7.at
          have HL7 := Lib.hid hL7
          have HN7 := Lib.hid hn7
          have hcp7 := own_cap ho7
          clear ho7 hR7 hb7 HB6 hL7 hn7 HZ56
          go_wp2_with fail
          refine (refSame5 L5 L7 w7.heap.size A5 A7 (n + n6) c5 (n + n6) c7 w7 HP5.out HQ5.out HP7.out HQ7.out HN5.out HN7.out (Nat.le_refl _) (by unfold maxLen; omega) (by unfold maxLen; omega)).mono ?_
          rintro e w8 ⟨⟨x, rfl, hx⟩, hb8⟩
          obtain rfl : x = true := hx.2 (HL5.out.trans HL7.out.symm)
          have HB8 := Lib.hid (HB7.out.via hb8)
          have HS9 := Lib.hid (refSame5 L6 (L7.drop n) w7.heap.size A6 (cut A7 c7 n) n6 c6 n6 (c7 - n) w8 (HP6.out.below hb8) (fun r hr => (HQ6.out r hr).below hb8) (by rw [List.map_drop]; exact (HP7.out.below hb8).cut (by rw [List.length_map, HN7.out]; omega) (by rw [List.length_map, HN7.out]; exact hcp7.1)) (RowsAt.drop (fun r hr => (HQ7.out r hr).below hb8) n) HN6.out (by rw [List.length_drop, HN7.out]; omega) hb8.size (by unfold maxLen; omega) (by unfold maxLen; omega))
          have HEQ : Hid (bss L6 = bss (L7.drop n)) := by
            show bss L6 = bss (L7.drop n)
            unfold bss
            rw [List.map_drop, HL7.out, HL6.out, Cod.shards_drop]
          have hsl := fun V : World => run_cut_fromR (P := Try.prog) 22 38 Try.underlying22 sizeRow A7 (n + n6) c7 n .i64 (by omega) V
          rw [show n + n6 - n = n6 from by omega] at hsl
          clear hx hb8 HB7 HP5 HQ5 HP6 HQ6 HP7 HQ7 HR HRR hcp7
          go_wp2_with fail
          refine HS9.out.mono ?_
          rintro e w9 ⟨⟨y, rfl, hy⟩, hb9⟩
          obtain rfl : y = true := hy.2 HEQ.out
          have HB9 := Lib.hid (HB8.out.via hb9)
          clear hy hb9
          go_wp2_with fail
          refine (codes _).mono ?_
          rintro e w10 ⟨rfl, hb10⟩
          have HB10 := Lib.hid (HB9.out.via hb10)
          clear hb10
          go_wp2
          go_ret
          exact ⟨rfl, HB10.out⟩
        · have HNO := Lib.hid hok
          have HLL : Hid (∀ r ∈ L, r.bs.length = r.n) := HRR.out.lens
          clear hok
          go_wp2_with fail
          refine (cdAllNo HC2.out L w.heap.size A n c (HR.out.below HB2.out) HLL.out HLN.out hnm HNO.out).mono ?_
          rintro e w5 ⟨rfl, rfl⟩
          go_wp2_with fail
          refine (cdEncodeNo HC2.out L w.heap.size A n c (HR.out.below HB2.out) HLL.out HLN.out hnm HNO.out).mono ?_
          rintro e w6 ⟨rfl, rfl⟩
          go_wp2_with fail
          refine (refAllNo5 (k : Int) (m : Int) L w.heap.size A n c _ (HR.out.below HB2.out) HLL.out HLN.out hnm HB2.out.size (fun x => HNO.out ⟨by omega, x.2⟩)).mono ?_
          rintro e w7 ⟨rfl, hb7⟩
          have HB7 := Lib.hid (HB2.out.via hb7)
          clear hb7 HC2
          go_wp2_with fail
          refine (refSame5 [] [] w7.heap.size none none 0 0 0 0 w7 (Rd.nil _ _ _) RowsAt.nil (Rd.nil _ _ _) RowsAt.nil rfl rfl (Nat.le_refl _) (by decide) (by decide)).mono ?_
          rintro e w8 ⟨⟨x, rfl, hx⟩, hb8⟩
          obtain rfl : x = true := hx.2 rfl
          have HB8 := Lib.hid (HB7.out.via hb8)
          clear hx hb8
          go_wp2_with fail
          refine (codes _).mono ?_
          rintro e w9 ⟨rfl, hb9⟩
          have HB9 := Lib.hid (HB8.out.via hb9)
          clear hb9
          go_wp2
          go_ret
          exact ⟨rfl, HB9.out⟩
  · rw [mayB_false.2 hmay] at HMAY
    have HN0 := Lib.hid (fun p W => cdNew0 p k m hmay hk hm W)
    clear hmay hr hR hn hF HFEW
    go_enter Try.func3, Try.ntmps3
    go_wp2_with fail
    refine (fldNewA _).mono ?_
    rintro e w1 ⟨rfl, hf, hz, hb0⟩
    have HB1 := Lib.hid (hb0 w.heap.size w (Nat.le_refl _) (Below.refl _ _))
    clear hb0 hz hf
    go_wp2_with fail
    refine (HN0.out _ _).mono ?_
    rintro e w2 ⟨rfl, rfl⟩
    go_wp2_with fail
    refine (HMAY.out _).mono ?_
    rintro e w3 ⟨rfl, rfl⟩
    go_wp2_with fail
    refine (codes _).mono ?_
    rintro e w4 ⟨rfl, hb4⟩
    have HB4 := Lib.hid (HB1.out.via hb4)
    clear hb4
    go_wp2
    go_ret
    exact ⟨rfl, HB4.out⟩
end Cib
