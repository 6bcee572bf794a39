/- A shard is got of a sector: contracts. -/
import Derived.Test.YtpkpdamdclafjaaShdW
import Derived.Deep.MidRow
set_option linter.unusedVariables false
set_option linter.unusedSimpArgs false
set_option maxRecDepth 20000
namespace Cib
open Go Go.RowKit Go.Proofs

section
variable {P : Program}
/-- A new variable of a type whose zero is known. -/
theorem wpList_allocAs {ops : Array Oper} {rest : List Oper} {o : Oper} {a : Act} {w : World} {Q : Exit → Act → World → Prop} (hg : o.guard = none) (t : TypeId) (ho : o.op = .alloc t) (Z : Array Value)
    (hz : (P.info? t).map (·.zero) = some (some (.agg Z))) (h : wpList P ops Q rest (a.put o.dst (.pointer (some ⟨w.heap.size, 0, none⟩))) (w.alloc (.cells Z t))) : wpList P ops Q (o :: rest) a w := by
  refine wpList_plain hg fun K hK => ?_
  obtain ⟨i, hi, hzz⟩ := Option.map_eq_some_iff.1 hz
  have hzv : (zeroValue t).run P w = .ok (.agg Z) w := by simp [zeroValue, typeInfo, hi, hzz]
  unfold Oper.wp execOp
  simp only [ho]
  go_simp
  exact hK _ _ h
theorem wpList_buildAs {ops : Array Oper} {rest : List Oper} {o : Oper} {a : Act} {w : World} {Q : Exit → Act → World → Prop} (hg : o.guard = none) (t : TypeId) (parts : Array (Nat × Operand)) (ho : o.op = .build t parts)
    (cells : Array Value) {l : List (Nat × Value)} (hb : P.built t l = some cells) (hl : (parts.map fun (i, x) => (i, a.eval x)).toList = l)
    (h : wpList P ops Q rest (a.put o.dst (.agg cells)) w) : wpList P ops Q (o :: rest) a w :=
  wpList_build hg t parts ho (by rw [hl, hb]; rfl) (by rw [hl, hb]; exact h)
/-- Two results, the first a struct in memory. -/
theorem results_cell_row2 {fn : Func} {p t : Tmp} {ty : TypeId} (h : fn.results = #[.cell p ty, .tmp t]) (tmps : Array Value) (w : World) (g : Nat) (te : TypeId) (cs : Array Value) (fr : Nat × Nat) (d : TypeDesc)
    (hp : tmps.getD p undef = .pointer (some ⟨g, 0, none⟩)) (hg : w.heap[g]? = some (.cells cs te fr))
    (hu : P.underlying ty = some d) (hd : (match d with | .struct _ | .array _ _ => true | _ => false) = true) (hi : (P.info? ty).map (·.size) = some cs.size) :
    (results fn tmps).run P w = .ok (.tuple #[.agg cs, tmps.getD t undef]) w := by
  have hp' : tmps[p]?.getD undef = .pointer (some ⟨g, 0, none⟩) := by simpa using hp
  simp [results, h, hp', asAddr, run_loadVar_row w g te ty cs fr d hg hu hd hi]
end
theorem shdZero : (Try.prog.info? 26).map (·.zero) = some (some (.agg (shC Shd.nul))) := by kernel_rfl
theorem shdBuilt : Try.prog.built 26 [] = some (shC Shd.nul) := by kernel_rfl
theorem shdBuilt2 (a b : Nat) : Try.prog.built 26 [(0, .int .u8 (a : Int)), (1, .int .u8 (b : Int))] = some (shC ⟨a, b, 0, 0, 0, List.replicate 44 0⟩) := by kernel_rfl
theorem shdTaker (A : Option Addr) (len cap : Nat) (w : World) :
    Calls Try.prog 23 #[.slice A len cap] w fun e w' => e = .returned (.func (.func 29) #[] #[.pointer (some ⟨w.heap.size, 0, none⟩), .pointer (some ⟨w.heap.size + 1, 0, none⟩)]) ∧
      w' = (w.alloc (.cells #[.slice A len cap] 28)).alloc (.cells #[.int .i64 0] 3) := by
  have hmf : ∀ (fn : Fn) (first cap : Array Value) (w : World), (Instr.makeFunc fn first cap).run Try.prog w = .ok (.func fn first cap) w := fun _ _ _ _ => rfl
  go_enter Try.func23, Try.ntmps23
  go_wp2
  go_ret
  exact ⟨rfl, rfl⟩
theorem shdTake (A : Option Addr) (cap : Nat) (b : List UInt8) (g1 g2 : Nat) (k wd : Nat) (w : World) (B : Nat) (h : Rd w B A (b.map bv)) {len : Nat} (hn : b.length = len) (hcap : len ≤ cap) (hcm : cap ≤ maxLen) (hk : k ≤ 1000) (hwd : wd ≤ 8)
    (h1 : Blk w g1 28 #[.slice A len cap]) (h2 : Blk w g2 3 #[.int .i64 (k : Int)]) :
    Calls Try.prog 29 #[.int .i64 (wd : Int), .pointer (some ⟨g1, 0, none⟩), .pointer (some ⟨g2, 0, none⟩)] w fun e w' => e = .returned (.int .u64 ((Go.Proofs.Ytpkpdamdclafjaa.getP b k wd).1 : Int)) ∧ w' = w.setRow g2 #[.int .i64 ((k + wd : Nat) : Int)] := by
  have hg := Go.Proofs.Ytpkpdamdclafjaa.numGet A cap b k wd w B h hn hcap hcm ⟨by omega, by omega⟩ ⟨by omega, by omega⟩
  unfold Go.Proofs.Ytpkpdamdclafjaa.getV at hg
  generalize Go.Proofs.Ytpkpdamdclafjaa.getP b k wd = p at *
  obtain ⟨n, e⟩ := p
  simp only at hg
  have HG := Lib.hid hg
  have hc1 := h1.cell 0
  have hc2 := h2.cell 0
  have hf2 := h2.frozen 0
  have hs := setCell_eq_setRow w g2 0 _ _ _ (.int .i64 ((k : Int) + (wd : Int))) h2
  simp at hc1 hc2 hs
  have HS := Lib.hid hs
  clear hg h1 h2 h hs
  go_enter Try.func29, Try.ntmps29
  go_wp2_with (go_at_call 22; refine HG.out.mono ?_; rintro e w' ⟨rfl, rfl⟩)
  go_ret
  exact ⟨rfl, by rw [Int.natCast_add]; exact HS.out⟩
theorem getP_at {b : List UInt8} {i wd : Nat} (h1 : 1 ≤ wd) (h2 : wd ≤ 8) (h : i + wd ≤ b.length) : Go.Proofs.Ytpkpdamdclafjaa.getP b i wd = (Shd.at_ b i wd, 0) := by
  unfold Go.Proofs.Ytpkpdamdclafjaa.getP
  rw [if_neg (by omega), if_neg (by omega), Int.toNat_natCast, Int.toNat_natCast]
  rfl
theorem shC_one (s : Shd.Sh) : (shC s).all (·.oneCell') = true := by
  unfold shC
  refine all_oneCell_toArray fun v hv => ?_
  rcases List.mem_append.1 hv with hv | hv
  · simp only [List.mem_cons, List.not_mem_nil, or_false] at hv
    rcases hv with rfl | rfl | rfl | rfl | rfl <;> rfl
  · exact one_bytes v hv
/-- What Get answers. -/
def GetOut (b : List UInt8) (w : World) (e : Ending) (w' : World) : Prop := e = .returned (.tuple #[.agg (shC (Shd.getS b).1), .int .i64 ((Shd.getS b).2 : Int)]) ∧ Below w.heap.size w w'
theorem shdGet2 (A : Option Addr) (cap : Nat) (b : List UInt8) (w : World) {len : Nat} (hn : b.length = len) (hl : len ≠ 64) :
    Calls Try.prog 9 #[.slice A len cap] w (GetOut b w) := by
  have HV : Hid (Shd.getS b = (Shd.nul, 2)) := if_pos (by omega)
  have hne : ((len : Int) != 64) = true := by rw [bne_iff_ne]; omega
  have HO := Lib.hid (shC_one Shd.nul)
  have HS := Lib.hid (shCsize Shd.nul Shd.nul_ok)
  have HZ := Lib.hid shdZero
  have HB := Lib.hid shdBuilt
  unfold GetOut
  rw [HV.out]
  simp only
  clear hn hl HV
  generalize shC Shd.nul = Z at *
  go_enter Try.func9, Try.ntmps9
  go_wp2_with (first | (refine wpList_allocAs rfl 26 rfl Z HZ.out ?_) | (refine wpList_buildAs rfl 26 _ rfl Z HB.out (by simp) ?_) | (refine wpList_store_row rfl 26 _ _ rfl w.heap.size Z rfl rfl 26 Z (Blk.new _ _ _) (by rw [HS.out]; exact shdInfo) rfl HO.out ?_))
  refine bodyPost_ret (results_cell_row2 (g := w.heap.size) (te := 26) (cs := Z) (fr := (0, 0)) rfl _ _ _ rfl ((Blk.new _ _ _).row Z) Try.underlying26 rfl (by rw [HS.out]; exact shdInfo)) rfl ⟨rfl, below_setRow ((Below.refl _ _).alloc (Nat.le_refl _) _) (Nat.le_refl _) Z⟩
end Cib
