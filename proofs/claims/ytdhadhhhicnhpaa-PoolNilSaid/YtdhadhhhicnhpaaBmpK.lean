/- walk, with what each call of its function leaves. -/
import Derived.Test.YtdhadhhhicnhpaaBmpC
set_option linter.unusedVariables false
set_option linter.unusedSimpArgs false
set_option maxRecDepth 20000
namespace Cib
open Go Go.RowKit Go.Proofs
variable {base g : Nat} {bs : List Bool} {A : Option Addr} {c : Nat}
def ptr (g : Nat) : Value := .pointer (some ⟨g, 0, none⟩)
/-- What a call of walk's function leaves: it goes on, or it is done. -/
def Went (I D : World → Prop) (e : Ending) (w : World) : Prop := (e = .returned (.bool true) ∧ I w) ∨ (e = .returned (.bool false) ∧ D w)
theorem walkLeast (gl gm : Nat) (Inv : Nat → World → Prop) (Done : World → Prop) (hmp : ∀ i W, Inv i W → Mp W base g bs A c)
    (h1 : ∀ i (hi : i < bs.length) W, Inv i W → Calls Try.prog 39 #[.int .i64 (i : Int), .bool bs[i], .pointer (some ⟨gl, 0, none⟩), .pointer (some ⟨gm, 0, none⟩)] W (fun e W' => Went (Inv (i + 1)) Done e W'))
    (h2 : ∀ i, i + 64 ≤ bs.length → (∀ k, k < 64 → bs.getD (i + k) false = true) → ∀ W, Inv i W → Calls Try.prog 39 #[.int .i64 ((i : Int) + 63), .bool true, .pointer (some ⟨gl, 0, none⟩), .pointer (some ⟨gm, 0, none⟩)] W (fun e W' => Went (Inv (i + 64)) Done e W'))
    (from_ : Int) (hfrom : from_ ≤ 9223372036854775807) (w : World) (h0 : Inv from_.toNat w) :
    Calls Try.prog 38 #[.pointer (some ⟨g, 0, none⟩), .int .i64 from_, .func (.func 39) #[] #[.pointer (some ⟨gl, 0, none⟩), .pointer (some ⟨gm, 0, none⟩)]] w
      fun e W' => e = .returned (.tuple #[]) ∧ (Done W' ∨ ∃ i, bs.length ≤ i ∧ Inv i W') := by
  have hn := (hmp _ _ h0).n
  have HMP := Lib.hid hmp
  have H1 := Lib.hid h1
  have H2 := Lib.hid h2
  have H0 := Lib.hid h0
  have hmx : max from_ 0 = (from_.toNat : Int) := by omega
  have hfn : from_.toNat ≤ 9223372036854775807 := by omega
  have HFN := Lib.hid hfn
  clear hmp h1 h2 h0 hfn
  go_enter Try.func38, Try.ntmps38
  go_upto_region 0 with fail
  go_cut [6] (fun x wx => x = .int .i64 (from_.toNat : Int) ∧ wx = w)
  case first =>
    clear H0 H1 H2 HMP
    go_wp2
    all_goals (go_meet; exact ⟨int_eq (by omega), rfl⟩)
  case rest =>
    obtain ⟨rfl, rfl⟩ := hcut
    go_wp2
    go_loopw [6] (fun x wr => ∃ k : Nat, x = .int .i64 k ∧ Hid (k ≤ 9223372036854775807) ∧ Hid (Inv k wr)) (fun x _ => bs.length - (intOf x).toNat)
    case atStart => exact ⟨from_.toNat, by go_num, HFN, H0⟩
    case round =>
      obtain ⟨k, rfl, hk, hI⟩ := hrel
      have hM := HMP.out _ _ hI.out
      have HLEN := Lib.hid (bmLen hM)
      by_cases hlt : k < bs.length
      · have HHAS := Lib.hid (bmHas hM k)
        rw [Bmp.has_in hlt] at HHAS
        have HC1 := Lib.hid (H1.out k hlt wr hI.out)
        obtain ⟨b, hA, hb, hk64, hcell, _⟩ := hM.word hlt
        have hc1 := hM.c1
        rw [hA] at hc1
        have hnw : nw bs.length ≤ 1024 := by unfold nw; omega
        have HM := Lib.hid hM
        clear hM
        by_cases h64 : k % 64 = 0
        · by_cases hfull : Bmp.word bs (k / 64) = 18446744073709551615
          · obtain ⟨hk2, hall⟩ := (Bmp.word_full bs hlt h64).1 hfull
            have HC2 := Lib.hid (H2.out k hk2 hall wr hI.out)
            rw [hfull] at hcell
            clear hfull hall HC1 HHAS
            go_wp2_with (first | (go_at_call 32; refine HLEN.out.mono ?_; rintro e w' ⟨rfl, rfl⟩) | (go_at_call 34; refine HHAS.out.mono ?_; rintro e w' ⟨rfl, rfl⟩))
            refine HC2.out.mono ?_
            rintro e w2 (⟨rfl, hI2⟩ | ⟨rfl, hD2⟩)
            · go_wp2
              go_roundw
              case rel => exact ⟨k + 64, by go_num, by (show _ ≤ _; omega), hI2⟩
              case measure => simp [intOf]; omega
            · go_wp2
              first | go_end0 | refine bodyPost_ret (results_none rfl _ _ _) rfl ?_
              exact ⟨rfl, .inl hD2⟩
          · have hne : ((Bmp.word bs (k / 64) : Int) == 18446744073709551615) = false := by simp; omega
            clear hfull
            generalize Bmp.word bs (k / 64) = W at *
            go_wp2_with (first | (go_at_call 32; refine HLEN.out.mono ?_; rintro e w' ⟨rfl, rfl⟩) | (go_at_call 34; refine HHAS.out.mono ?_; rintro e w' ⟨rfl, rfl⟩))
            refine HC1.out.mono ?_
            rintro e w2 (⟨rfl, hI2⟩ | ⟨rfl, hD2⟩)
            · go_wp2
              go_roundw
              case rel => exact ⟨k + 1, by go_num, by (show _ ≤ _; omega), hI2⟩
              case measure => simp [intOf]; omega
            · go_wp2
              first | go_end0 | refine bodyPost_ret (results_none rfl _ _ _) rfl ?_
              exact ⟨rfl, .inl hD2⟩
        · go_wp2_with (first | (go_at_call 32; refine HLEN.out.mono ?_; rintro e w' ⟨rfl, rfl⟩) | (go_at_call 34; refine HHAS.out.mono ?_; rintro e w' ⟨rfl, rfl⟩))
          refine HC1.out.mono ?_
          rintro e w2 (⟨rfl, hI2⟩ | ⟨rfl, hD2⟩)
          · go_wp2
            go_roundw
            case rel => exact ⟨k + 1, by go_num, by (show _ ≤ _; omega), hI2⟩
            case measure => simp [intOf]; omega
          · go_wp2
            first | go_end0 | refine bodyPost_ret (results_none rfl _ _ _) rfl ?_
            exact ⟨rfl, .inl hD2⟩
      · go_wp2_with (go_at_call 32; refine HLEN.out.mono ?_; rintro e w' ⟨rfl, rfl⟩)
        first | go_end0 | refine bodyPost_ret (results_none rfl _ _ _) rfl ?_
        exact ⟨rfl, .inr ⟨k, by omega, hI.out⟩⟩
end Cib
