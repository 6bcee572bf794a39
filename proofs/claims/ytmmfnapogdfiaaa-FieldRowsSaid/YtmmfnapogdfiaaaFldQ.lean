/- Products of rows: the field's and the document's. -/
import Derived.Test.YtmmfnapogdfiaaaFldS
import Derived.Test.YtmmfnapogdfiaaaFldE
set_option linter.unusedVariables false
set_option linter.unusedSimpArgs false
set_option maxRecDepth 20000
namespace Cib
open Go Go.RowKit Go.Proofs

/-- The sum of the first k products. -/
def dotN (a b : List UInt8) : Nat → Nat
  | 0 => 0
  | k + 1 => dotN a b k ^^^ Fld.gmul (a.getD k 0).toNat (b.getD k 0).toNat
theorem dotN_lt (a b : List UInt8) : ∀ k, dotN a b k < 256
  | 0 => by show (0 : Nat) < 256; decide
  | k + 1 => Fld.xor_lt (dotN_lt a b k) (Fld.gmul_lt (UInt8.toNat_lt _))
theorem dotN_next {a b : List UInt8} {k : Nat} (ha : k < a.length) (hb : k < b.length) : dotN a b (k + 1) = dotN a b k ^^^ Fld.gmul a[k].toNat b[k].toNat := by
  simp [dotN, ha, hb]
theorem Aft.drewN {w w1 : World} {g : Nat} (h : Aft g w w1) (n : Nat) : Aft g w (w1.drewN n) := ⟨h.full.drewN n, h.os, h.tape, h.output, h.size, h.oth⟩
theorem fldDot (g : Nat) (A1 : Option Addr) (c1 : Nat) (a : List UInt8) (A2 : Option Addr) (c2 : Nat) (b : List UInt8) (w : World) (h : Fld w g) (B : Nat) (hra : ∀ w1, Aft g w w1 → Rd w1 B A1 (a.map bv)) (hrb : ∀ w1, Aft g w w1 → Rd w1 B A2 (b.map bv)) {n1 n2 : Nat} (hn1 : a.length = n1) (hn2 : b.length = n2) (hl1 : n1 ≤ 1000000000) (hl2 : n2 ≤ 1000000000) :
    Calls Try.prog 21 #[.pointer (some ⟨g, 0, none⟩), .slice A1 n1 c1, .slice A2 n2 c2] w fun e w' => e = .returned (.int .u8 (dotN a b (min n1 n2) : Nat)) ∧ Aft g w w' := by
  subst hn1 hn2
  by_cases hmin : b.length < a.length
  · rw [Nat.min_eq_right (by omega)]
    go_enter Try.func21, Try.ntmps21
    go_wp2_with (go_at_call 23; refine (fldReadyA g w h).mono ?_; rintro e w1 ⟨rfl, ha⟩)
    go_loopw [7, 8, 17] (fun s _ i wr => ∃ k : Nat, k ≤ b.length ∧ i = .int .i64 k ∧ s = .int .u8 (dotN a b k : Nat) ∧ Aft g w wr) (fun _ _ i _ => b.length - (intOf i).toNat)
    case atStart => exact ⟨0, Nat.zero_le _, rfl, rfl, ha⟩
    case round =>
      obtain ⟨k, hk, rfl, rfl, har⟩ := hrel
      by_cases hlt : k < b.length
      · have hka : k < a.length := by omega
        have hkb : k < b.length := by omega
        obtain ⟨ad, rfl, _, hca⟩ := ((hra wr har).byte hka)
        obtain ⟨bd, rfl, _, hcb⟩ := ((hrb wr har).byte hkb)
        have hF := Lib.hid har.full
        have hd := dotN_lt a b k
        have hg := Fld.gmul_lt (b := b[k].toNat) a[k].toNat_lt
        have HX : Hid (bits .xor .u8 (dotN a b k : Int) (Fld.gmul a[k].toNat b[k].toNat : Int) = (dotN a b (k + 1) : Int)) := by
          show _ = _
          rw [u8_xor_nat _ _ hd hg, dotN_next hka hkb]
        go_wp2
        go_quiet (first | (go_at_call 24; refine Calls.quiet_of (fldTmul g _ _ a[k].toNat_lt b[k].toNat_lt _ (hF.out.drewN _))))
        go_wp2
        exact ⟨⟨k + 1, by omega, by go_num, int_eq HX.out, har.drewN _⟩, by simp [intOf]; omega⟩
      · obtain rfl : k = b.length := by omega
        go_wp2
        go_ret
        exact ⟨rfl, har⟩
  · rw [Nat.min_eq_left (by omega)]
    go_enter Try.func21, Try.ntmps21
    go_wp2_with (go_at_call 23; refine (fldReadyA g w h).mono ?_; rintro e w1 ⟨rfl, ha⟩)
    go_loopw [7, 8, 17] (fun s _ i wr => ∃ k : Nat, k ≤ a.length ∧ i = .int .i64 k ∧ s = .int .u8 (dotN a b k : Nat) ∧ Aft g w wr) (fun _ _ i _ => a.length - (intOf i).toNat)
    case atStart => exact ⟨0, Nat.zero_le _, rfl, rfl, ha⟩
    case round =>
      obtain ⟨k, hk, rfl, rfl, har⟩ := hrel
      by_cases hlt : k < a.length
      · have hka : k < a.length := by omega
        have hkb : k < b.length := by omega
        obtain ⟨ad, rfl, _, hca⟩ := ((hra wr har).byte hka)
        obtain ⟨bd, rfl, _, hcb⟩ := ((hrb wr har).byte hkb)
        have hF := Lib.hid har.full
        have hd := dotN_lt a b k
        have hg := Fld.gmul_lt (b := b[k].toNat) a[k].toNat_lt
        have HX : Hid (bits .xor .u8 (dotN a b k : Int) (Fld.gmul a[k].toNat b[k].toNat : Int) = (dotN a b (k + 1) : Int)) := by
          show _ = _
          rw [u8_xor_nat _ _ hd hg, dotN_next hka hkb]
        go_wp2
        go_quiet (first | (go_at_call 24; refine Calls.quiet_of (fldTmul g _ _ a[k].toNat_lt b[k].toNat_lt _ (hF.out.drewN _))))
        go_wp2
        exact ⟨⟨k + 1, by omega, by go_num, int_eq HX.out, har.drewN _⟩, by simp [intOf]; omega⟩
      · obtain rfl : k = a.length := by omega
        go_wp2
        go_ret
        exact ⟨rfl, har⟩
end Cib
