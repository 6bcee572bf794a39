/- A shard is equal to itself. -/
import Derived.Test.YtpkpdamdclafjaaShdW
import Derived.Laws.StructEq
import Derived.Stop.BytesEq
set_option linter.unusedVariables false
set_option linter.unusedSimpArgs false
set_option maxRecDepth 20000
namespace Cib
open Go Go.RowKit Go.Proofs
theorem run_part_int {P : Program} {t : TypeId} {k : IntKind} {cs : Array Value} {off : Nat} {v : Value} (ht : P.underlying t = some (.int k)) (h : cs[off]? = some v) (w : World) : (part t cs off).run P w = .ok v w := by
  simp [part, isAgg, run_underlying ht, h]
theorem shdFields : (Try.prog.fieldsOf 26).toList.map (fun f => (f.name, f.type, f.offset)) = [("Kind", 5, 0), ("Index", 5, 1), ("Place", 22, 2), ("Gen", 23, 3), ("Size", 22, 4), ("Body", 24, 5)] := by kernel_rfl
theorem eqStep {P : Program} {d : Nat} {xs ys : Array Value} {f : Field} {fs : List Field} {w : World} {a b : Value} (hn : f.name ≠ "_") (h1 : (part f.type xs f.offset).run P w = .ok a w) (h2 : (part f.type ys f.offset).run P w = .ok b w)
    (h3 : (Op.equalIn d f.type a b).run P w = .ok true w) : (Op.eqFields d xs ys (f :: fs)).run P w = (Op.eqFields d xs ys fs).run P w := by
  rw [Op.eqFields, if_pos hn]
  simp only [Sem.run_bind, h1, h2, h3, Result.andThen_ok, Bool.not_true, Bool.false_eq_true, if_false]
theorem shdSame (s : Shd.Sh) (hs : s.ok) (w : World) : (Op.equalIn 10000 26 (.agg (shC s)) (.agg (shC s))).run Try.prog w = .ok true w := by
  rw [run_equalIn_agg w 9999 26 _ _ (by kernel_rfl) Try.stoodInHeld26]
  have hf := shdFields
  generalize (Try.prog.fieldsOf 26).toList = fs at *
  obtain ⟨f0, r0, rfl, e0, hf⟩ := List.map_eq_cons_iff.1 hf
  obtain ⟨f1, r1, rfl, e1, hf⟩ := List.map_eq_cons_iff.1 hf
  obtain ⟨f2, r2, rfl, e2, hf⟩ := List.map_eq_cons_iff.1 hf
  obtain ⟨f3, r3, rfl, e3, hf⟩ := List.map_eq_cons_iff.1 hf
  obtain ⟨f4, r4, rfl, e4, hf⟩ := List.map_eq_cons_iff.1 hf
  obtain ⟨f5, r5, rfl, e5, hf⟩ := List.map_eq_cons_iff.1 hf
  obtain rfl := List.map_eq_nil_iff.1 hf
  simp only [Prod.mk.injEq] at e0 e1 e2 e3 e4 e5
  obtain ⟨n0, t0, o0⟩ := e0
  obtain ⟨n1, t1, o1⟩ := e1
  obtain ⟨n2, t2, o2⟩ := e2
  obtain ⟨n3, t3, o3⟩ := e3
  obtain ⟨n4, t4, o4⟩ := e4
  obtain ⟨n5, t5, o5⟩ := e5
  have i0 : ∀ (f : Field) (o : Nat) (t : TypeId) (k : IntKind) (x : Int) (fs : List Field), f.name ≠ "_" → f.type = t → f.offset = o → Try.prog.underlying t = some (.int k) → (shC s)[o]? = some (.int k x) →
      (Op.eqFields 9999 (shC s) (shC s) (f :: fs)).run Try.prog w = (Op.eqFields 9999 (shC s) (shC s) fs).run Try.prog w := fun f o t k x fs hn ht ho hu hc => by
    subst ht ho
    exact eqStep hn (run_part_int hu hc w) (run_part_int hu hc w) (by rw [run_equalIn_int w 9998 f.type k k x x hu]; simp)
  rw [i0 f0 0 _ .u8 _ _ (by rw [n0]; decide) t0 o0 Try.underlying5 (shC0 s)]
  rw [i0 f1 1 _ .u8 _ _ (by rw [n1]; decide) t1 o1 Try.underlying5 (shC1 s)]
  rw [i0 f2 2 _ .u16 _ _ (by rw [n2]; decide) t2 o2 Try.underlying22 (shC2 s)]
  rw [i0 f3 3 _ .u64 _ _ (by rw [n3]; decide) t3 o3 Try.underlying23 (shC3 s)]
  rw [i0 f4 4 _ .u16 _ _ (by rw [n4]; decide) t4 o4 Try.underlying22 (shC4 s)]
  have hp : (part f5.type (shC s) f5.offset).run Try.prog w = .ok (.agg (s.body.map Extern.Stop.cell).toArray) w := by
    rw [t5, o5]
    have hsz : (Go.sizeOf 24).run Try.prog w = .ok 44 w := by
      obtain ⟨i, hi, hii⟩ := Option.map_eq_some_iff.1 (show (Try.prog.info? 24).map (·.size) = some 44 by kernel_rfl)
      simp [Go.sizeOf, typeInfo, hi, hii]
    have he : (shC s).extract 5 (5 + 44) = (s.body.map Extern.Stop.cell).toArray := by
      unfold shC
      rw [List.extract_toArray, List.extract_eq_take_drop, List.drop_append_of_le_length (by simp)]
      rw [List.drop_of_length_le (by simp), List.nil_append, List.take_of_length_le (by rw [List.length_map, hs.2.2.2.2.2]; decide)]
      rfl
    simp [part, isAgg, run_underlying Try.underlying24, hsz, he]
  rw [eqStep (by rw [n5]; decide) hp hp (by
    rw [t5, run_equalIn_bytes w 9997 24 5 44 Try.underlying24 Try.underlying5 (fun w => by
      obtain ⟨i, hi, hii⟩ := Option.map_eq_some_iff.1 sizeByte
      simp [Go.sizeOf, typeInfo, hi, hii]) _ _ hs.2.2.2.2.2 hs.2.2.2.2.2]
    simp)]
  rfl
theorem run_shdEql (s : Shd.Sh) (hs : s.ok) (w : World) : (binOp .eql 26 (.agg (shC s)) (.agg (shC s))).run Try.prog w = .ok (.bool true) w := by
  rw [run_eql_struct, shdSame s hs w]
  rfl
theorem run_shdNeq (s : Shd.Sh) (hs : s.ok) (w : World) : (binOp .neq 26 (.agg (shC s)) (.agg (shC s))).run Try.prog w = .ok (.bool false) w := by
  rw [run_neq_struct, shdSame s hs w]
  rfl
end Cib
