/- Whose a shard is; the document's numbers and sectors: contracts. -/
import Derived.Test.YtpkpdamdclafjaaShdV
import Derived.Test.YtpkpdamdclafjaaNumS
import Derived.Test.YtpkpdamdclafjaaCrcR
set_option linter.unusedVariables false
set_option linter.unusedSimpArgs false
set_option maxRecDepth 40000
namespace Cib
open Go Go.RowKit Go.Proofs

theorem shdGet (A : Option Addr) (cap : Nat) (b : List UInt8) (w : World) (B : Nat) (h : Rd w B A (b.map bv)) {len : Nat} (hn : b.length = len) (hcap : len ≤ cap) (hcm : cap ≤ maxLen) (hB : B ≤ w.heap.size) :
    Calls Try.prog 9 #[.slice A len cap] w (GetOut b w) := by
  by_cases hl : len = 64
  · subst hl
    by_cases hs : Shd.at_ b 60 4 = (Crc.more 0#32 (b.take 60)).toNat
    · exact shdGetRest A cap b w B h hn hcap hcm hB hs
    · exact shdGetSum A cap b w B h hn hcap hcm hB hs
  · exact shdGet2 A cap b w hn hl
/-- Is a shard one of a stripe? -/
def isB (s : Shd.Sh) (rk rp rg i : Int) : Bool := (((s.kind : Int) == rk && (s.place : Int) == rp) && (s.gen : Int) == rg) && (s.idx : Int) == i
theorem shdIs (f : FuncId) (hf : f = 14 ∨ f = 15) (s : Shd.Sh) (hs : s.ok) (rk rp rg i : Int) (w : World) :
    Calls Try.prog f #[.agg (shC s), .agg #[.int .u8 rk, .int .i64 rp, .int .u64 rg], .int .i64 i] w fun e w' => e = .returned (.bool (isB s rk rp rg i)) ∧ Below w.heap.size w w' := by
  have h0 := shC0 s
  have h1 := shC1 s
  have h2 := shC2 s
  have h3 := shC3 s
  obtain ⟨b0, b1, b2, b3, b4, _⟩ := hs
  have B3 := Lib.hid b3
  clear b3
  have HV : Hid (isB s rk rp rg i = ((((s.kind : Int) == rk && (s.place : Int) == rp) && (s.gen : Int) == rg) && (s.idx : Int) == i)) := rfl
  generalize shC s = C at *
  rcases hf with rfl | rfl
  · cases e1 : ((s.kind : Int) == rk)
    · rw [e1] at HV
      go_enter Try.func14, Try.ntmps14
      go_wp2
      go_ret
      exact ⟨by rw [HV.out]; rfl, ((Below.refl _ _).alloc (Nat.le_refl _) _).alloc (by simp) _⟩
    · cases e2 : ((s.place : Int) == rp)
      · rw [e1, e2] at HV
        go_enter Try.func14, Try.ntmps14
        go_wp2
        go_ret
        exact ⟨by rw [HV.out]; rfl, ((Below.refl _ _).alloc (Nat.le_refl _) _).alloc (by simp) _⟩
      · cases e3 : ((s.gen : Int) == rg)
        · rw [e1, e2, e3] at HV
          go_enter Try.func14, Try.ntmps14
          go_wp2
          go_ret
          exact ⟨by rw [HV.out]; rfl, ((Below.refl _ _).alloc (Nat.le_refl _) _).alloc (by simp) _⟩
        · rw [e1, e2, e3] at HV
          go_enter Try.func14, Try.ntmps14
          go_wp2
          go_ret
          exact ⟨by rw [HV.out]; rfl, ((Below.refl _ _).alloc (Nat.le_refl _) _).alloc (by simp) _⟩
  · cases e1 : ((s.kind : Int) == rk)
    · rw [e1] at HV
      go_enter Try.func15, Try.ntmps15
      go_wp2
      go_ret
      exact ⟨by rw [HV.out]; rfl, ((Below.refl _ _).alloc (Nat.le_refl _) _).alloc (by simp) _⟩
    · cases e2 : ((s.place : Int) == rp)
      · rw [e1, e2] at HV
        go_enter Try.func15, Try.ntmps15
        go_wp2
        go_ret
        exact ⟨by rw [HV.out]; rfl, ((Below.refl _ _).alloc (Nat.le_refl _) _).alloc (by simp) _⟩
      · cases e3 : ((s.gen : Int) == rg)
        · rw [e1, e2, e3] at HV
          go_enter Try.func15, Try.ntmps15
          go_wp2
          go_ret
          exact ⟨by rw [HV.out]; rfl, ((Below.refl _ _).alloc (Nat.le_refl _) _).alloc (by simp) _⟩
        · rw [e1, e2, e3] at HV
          go_enter Try.func15, Try.ntmps15
          go_wp2
          go_ret
          exact ⟨by rw [HV.out]; rfl, ((Below.refl _ _).alloc (Nat.le_refl _) _).alloc (by simp) _⟩
theorem refClosed (A : Option Addr) (cap : Nat) (b : List UInt8) (w : World) (B : Nat) (h : Rd w B A (b.map bv)) {len : Nat} (hn : b.length = len) (hB : B ≤ w.heap.size) (hl : len ≤ 1000000) :
    Calls Try.prog 16 #[.slice A len cap] w (NewB (Shd.closed b) w) := by
  have HS := Lib.hid (Go.Proofs.Ytpkpdamdclafjaa.refSum A cap b w B h (by unfold maxLen; omega) hn)
  have hq := (Crc.more 0#32 b).isLt
  have HC : Hid (Shd.closed b = Num.put b 4 (Crc.more 0#32 b).toNat) := rfl
  generalize (Crc.more 0#32 b).toNat = q at *
  go_enter Try.func16, Try.ntmps16
  go_wp2_with fail
  refine HS.out.mono ?_
  rintro e w' ⟨rfl, rfl⟩
  go_wp2_with fail
  refine (Go.Proofs.Ytpkpdamdclafjaa.refPut A cap b 4 q w B h hn hB (by decide) (by omega) (by omega)).mono ?_
  rintro e w' ⟨A2, n2, c2, rfl, hn2, ho2, hb2⟩
  rw [← HC.out] at hn2 ho2
  go_wp2
  go_ret
  exact ⟨A2, n2, c2, rfl, hn2, ho2, hb2⟩
theorem refNumber (A : Option Addr) (cap : Nat) (b : List UInt8) (i wd : Nat) (w : World) (B : Nat) (h : Rd w B A (b.map bv)) {len : Nat} (hn : b.length = len) (hcm : len ≤ 1000) (h1 : 1 ≤ wd) (h8 : wd ≤ 8) (hi : i + wd ≤ len) :
    Calls Try.prog 26 #[.slice A len cap, .int .i64 (i : Int), .int .i64 (wd : Int)] w fun e w' => e = .returned (.int .u64 (Shd.at_ b i wd : Int)) ∧ w = w' := by
  have hg := Go.Proofs.Ytpkpdamdclafjaa.refGet A cap b i wd w B h hn (by unfold maxLen; omega) ⟨by omega, by omega⟩ ⟨by omega, by omega⟩
  unfold Go.Proofs.Ytpkpdamdclafjaa.getV at hg
  rw [getP_at h1 h8 (by omega)] at hg
  have HG := Lib.hid hg
  clear hg
  go_enter Try.func26, Try.ntmps26
  go_wp2_with fail
  refine HG.out.mono ?_
  rintro e w' ⟨rfl, rfl⟩
  go_wp2
  go_ret
  exact ⟨rfl, rfl⟩
end Cib
