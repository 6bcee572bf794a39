/- Run, First: the closure, and what the walk with it finds. -/
import Derived.Test.YtdhadhhhicnhpaaBmpK
set_option linter.unusedVariables false
set_option linter.unusedSimpArgs false
set_option maxRecDepth 20000
namespace Cib
open Go Go.RowKit Go.Proofs
variable {base g : Nat} {bs : List Bool} {A : Option Addr} {c : Nat}
/-- What Run's closure has before it: how many lie side by side, how many are wanted, and what was found. -/
structure RunC (w : World) (gs gm gf : Nat) (side many : Nat) (found : Int) : Prop where
  s : Blk w gs 3 #[.int .i64 (side : Int)]
  m : Blk w gm 3 #[.int .i64 (many : Int)]
  f : Blk w gf 3 #[.int .i64 found]
  d : gs ≠ gm ∧ gs ≠ gf ∧ gm ≠ gf
theorem RunC.below {w w' : World} {gs gm gf side many : Nat} {found : Int} (h : RunC w gs gm gf side many found) (hb : Below w.heap.size w w') : RunC w' gs gm gf side many found :=
  ⟨h.s.below hb h.s.lt, h.m.below hb h.m.lt, h.f.below hb h.f.lt, h.d⟩
theorem RunC.setS {w : World} {gs gm gf side many : Nat} {found : Int} (h : RunC w gs gm gf side many found) (s' : Nat) : RunC (w.setCell ⟨gs, 0, none⟩ (.int .i64 (s' : Int))) gs gm gf s' many found :=
  ⟨h.s.set 0 _, h.m.far (fun e => h.d.1 e.symm) _, h.f.far (fun e => h.d.2.1 e.symm) _, h.d⟩
theorem RunC.setF {w : World} {gs gm gf side many : Nat} {found : Int} (h : RunC w gs gm gf side many found) (f' : Int) : RunC (w.setCell ⟨gf, 0, none⟩ (.int .i64 f')) gs gm gf side many f' :=
  ⟨h.s.far h.d.2.1 _, h.m.far h.d.2.2 _, h.f.set 0 _, h.d⟩
end Cib
