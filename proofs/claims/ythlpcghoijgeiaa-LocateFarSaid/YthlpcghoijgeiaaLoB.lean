/- Texts that are in use elsewhere, put together. -/
import Derived.Test.YthlpcghoijgeiaaRows
import Derived.WalkKit
import Derived.WalkSpells
import Derived.WalkLawsBesides
import Derived.Laws.BitsAllLaws
import Derived.Lib.Hide
import Derived.Deep.Onto
import Derived.Deep.DeepCutAuto
import Derived.Deep.LoopGhost
import Derived.BigRegion
import Derived.Maps.AppendAt
import Derived.Lib.SmallJoins
import Derived.Deep.OwnRows
import Derived.OpenShut
import Derived.Lib.SlBytesConst
import Derived.Deep.AppendLies
import Derived.Deep.Draws
import Derived.Deep.QuietTactic
import Derived.BigQuiet
import Derived.Laws.LoneSync
import Derived.RegionCalls
import Derived.Defers
import Derived.Laws.NewBlocks
import Derived.Test.YthlpcghoijgeiaaLoA
import Derived.Deep.RegionWith
/-! Base -/
section
set_option linter.unusedVariables false
set_option linter.unusedSimpArgs false
namespace Cib
open Go Go.RowKit

/-- A byte as a cell. -/
def bv (b : UInt8) : Value := .int .u8 (b.toNat : Int)

theorem addr_add_block (a : Addr) (n : Nat) : (a.add n).block = a.block := by
  unfold Addr.add
  split <;> rfl
theorem addr_add_add (a : Addr) (i j : Nat) : (a.add i).add j = a.add (i + j) := by
  unfold Addr.add
  by_cases hi : i = 0 <;> by_cases hj : j = 0 <;> simp [hi, hj, Nat.add_assoc]
theorem addr_add_zero (a : Addr) : a.add 0 = a := by
  unfold Addr.add
  simp

/-- The slice that begins at A holds the values vs, one cell each, in a block below B; of an empty one nothing is asked. -/
def Rd (w : World) (B : Nat) (A : Option Addr) (vs : List Value) : Prop :=
  vs ≠ [] → ∃ ad, A = some ad ∧ ad.block < B ∧ ∀ j (h : j < vs.length), w.cell? (ad.add j) = some vs[j]

section
variable {w w' : World} {B B' : Nat} {A : Option Addr} {vs : List Value}
theorem Rd.nil (w : World) (B : Nat) (A : Option Addr) : Rd w B A [] := fun h => absurd rfl h
theorem Rd.keep (h : Rd w B A vs) (hk : ∀ p : Addr, p.block < B → w'.cell? p = w.cell? p) : Rd w' B A vs := fun hn => by
  obtain ⟨ad, e, hb, hc⟩ := h hn
  exact ⟨ad, e, hb, fun j hj => (hk _ (by rw [addr_add_block]; exact hb)).trans (hc j hj)⟩
theorem Rd.more (h : Rd w B A vs) (hB : B ≤ B') : Rd w B' A vs := fun hn => by
  obtain ⟨ad, e, hb, hc⟩ := h hn
  exact ⟨ad, e, Nat.lt_of_lt_of_le hb hB, hc⟩
theorem Rd.below (h : Rd w B A vs) (hb : Below B w w') : Rd w' B A vs := h.keep fun _ hp => hb.cell hp
theorem Rd.alloc (h : Rd w B A vs) (hB : B ≤ w.heap.size) (o : Obj) : Rd (w.alloc o) B A vs := h.keep fun p hp => World.cell?_alloc_lt w o p (by omega)
theorem Rd.setCell (h : Rd w B A vs) {p : Addr} (hB : B ≤ p.block) (u : Value) : Rd (w.setCell p u) B A vs :=
  h.keep fun q hq => World.cell?_setCell_other w p q u (fun e => by subst e; omega)
theorem Rd.grown (h : Rd w B A vs) {row : Option Nat} (hg : w.grownBy w' row) (hB : B ≤ w.heap.size) (hr : ∀ g, row = some g → B ≤ g) : Rd w' B A vs :=
  h.keep fun p hp => World.cell?_of_block (hg.block p.block (by omega) (fun e => by have := hr _ e.symm; omega))
theorem Rd.of_own {base : Nat} {e : TypeId} {n c : Nat} (h : w.ownsRow base e 1 (.slice A n c) n vs) : Rd w w.heap.size A vs := fun hn => by
  have hl : vs.length = n := by simpa using h.1
  have hp : 0 < n := by
    rcases Nat.eq_zero_or_pos n with h0 | h0
    · exact absurd (List.eq_nil_of_length_eq_zero (by omega)) hn
    · exact h0
  obtain ⟨g, cap, hv, _, hlt⟩ := h.form hp
  have hA : A = some ⟨g, 0, none⟩ := by injection hv
  subst hA
  exact ⟨_, rfl, hlt, fun j hj => h.cells (g := g) rfl j _ (List.getElem?_eq_getElem hj)⟩
theorem Rd.new (w : World) (C : Array Value) (t : TypeId) (fr : Nat × Nat) {vs : List Value} (h : C.toList = vs) : Rd (w.alloc (.cells C t fr)) (w.heap.size + 1) (some ⟨w.heap.size, 0, none⟩) vs := fun _ => by
  subst h
  refine ⟨_, rfl, Nat.lt_succ_self _, fun j hj => ?_⟩
  have e : (⟨w.heap.size, 0, none⟩ : Addr).add j = ⟨w.heap.size, j, none⟩ := by
    unfold Addr.add
    split <;> simp_all
  rw [e, World.cell?_alloc_mark]
  simp at hj
  simp [hj]
/-- The cell of place k of a slice of bytes. -/
theorem Rd.byte {bs : List UInt8} (h : Rd w B A (bs.map bv)) {k : Nat} (hk : k < bs.length) :
    ∃ ad, A = some ad ∧ ad.block < B ∧ w.cell? (ad.add k) = some (.int .u8 ((bs[k]).toNat : Int)) := by
  obtain ⟨ad, e, hb, hc⟩ := h (by intro e; simp at e; subst e; simp at hk)
  have := hc k (by simpa using hk)
  rw [List.getElem_map] at this
  exact ⟨ad, e, hb, this⟩
end
/-- Where a slice begins that is cut at place k of one of capacity c. -/
def cut (A : Option Addr) (c k : Nat) : Option Addr := if c = k then A else A.map (·.add k)
theorem Rd.cut {w : World} {B : Nat} {A : Option Addr} {vs : List Value} (h : Rd w B A vs) {c k : Nat} (hk : k ≤ vs.length) (hc : vs.length ≤ c) : Rd w B (cut A c k) (vs.drop k) := fun hn => by
  have hlt : k < vs.length := by
    rcases Nat.lt_or_ge k vs.length with h1 | h1
    · exact h1
    · exact absurd (List.drop_eq_nil_of_le h1) hn
  obtain ⟨ad, rfl, hb, hcell⟩ := h (by rintro rfl; simp at hlt)
  unfold Cib.cut
  rw [if_neg (by omega)]
  refine ⟨ad.add k, rfl, by rw [addr_add_block]; exact hb, fun j hj => ?_⟩
  rw [addr_add_add, List.getElem_drop]
  rw [List.length_drop] at hj
  exact hcell (k + j) (by omega)
theorem Rd.take {w : World} {B : Nat} {A : Option Addr} {vs : List Value} (h : Rd w B A vs) (k : Nat) : Rd w B A (vs.take k) := fun hn => by
  obtain ⟨ad, rfl, hb, hcell⟩ := h (by rintro rfl; simp at hn)
  refine ⟨ad, rfl, hb, fun j hj => ?_⟩
  rw [List.length_take] at hj
  rw [List.getElem_take]
  exact hcell j (by omega)
section
variable {P : Program}
theorem run_cut_from (t e : TypeId) (ht : P.underlying t = some (.slice e)) (hs : (P.info? e).map (·.size) = some 1) (A : Option Addr) (n c k : Nat) (kd : IntKind) (hk : k ≤ n) (w : World) :
    (Instr.slice t (.slice A n c) (some (.int kd (k : Int))) none none).run P w = .ok (.slice (cut A c k) (n - k) (c - k)) w := by
  have he : P.elem t = e := by simp [Program.elem, ht]
  obtain ⟨i, hi, hsz⟩ := Option.map_eq_some_iff.1 hs
  have ht' : P.underlying t = some (.slice (P.elem t)) := by rw [he]; exact ht
  rw [run_slice_l w t A n c ht' kd (k : Int) (by omega) (by omega), he]
  simp [Go.sizeOf, typeInfo, hi, hsz, sliced, Cib.cut]
theorem run_cut_to (t e : TypeId) (ht : P.underlying t = some (.slice e)) (hs : (P.info? e).map (·.size) = some 1) (A : Option Addr) (n c l : Nat) (kd' : IntKind) (hl : l ≤ c) (w : World) :
    (Instr.slice t (.slice A n c) none (some (.int kd' (l : Int))) none).run P w = .ok (.slice A l c) w := by
  have he : P.elem t = e := by simp [Program.elem, ht]
  obtain ⟨i, hi, hsz⟩ := Option.map_eq_some_iff.1 hs
  have ht' : P.underlying t = some (.slice (P.elem t)) := by rw [he]; exact ht
  have ha : A.map (fun x => x.add 0) = A := by cases A <;> simp [addr_add_zero]
  rw [run_slice_h w t A n c ht' kd' (l : Int) (by omega) (by omega), he]
  simp [Go.sizeOf, typeInfo, hi, hsz, sliced, ha]
theorem run_cut_both (t e : TypeId) (ht : P.underlying t = some (.slice e)) (hs : (P.info? e).map (·.size) = some 1) (A : Option Addr) (n c k l : Nat) (kd kd' : IntKind) (hk : k ≤ l) (hl : l ≤ c) (w : World) :
    (Instr.slice t (.slice A n c) (some (.int kd (k : Int))) (some (.int kd' (l : Int))) none).run P w = .ok (.slice (cut A c k) (l - k) (c - k)) w := by
  have he : P.elem t = e := by simp [Program.elem, ht]
  obtain ⟨i, hi, hsz⟩ := Option.map_eq_some_iff.1 hs
  have ht' : P.underlying t = some (.slice (P.elem t)) := by rw [he]; exact ht
  rw [run_slice_lh w t A n c ht' kd kd' (k : Int) (l : Int) (by omega) (by omega) (by omega), he]
  simp [Go.sizeOf, typeInfo, hi, hsz, sliced, Cib.cut]
theorem run_cut_three (t e : TypeId) (ht : P.underlying t = some (.slice e)) (hs : (P.info? e).map (·.size) = some 1) (A : Option Addr) (n c k l m : Nat) (kd kd' kd'' : IntKind) (hk : k ≤ l) (hl : l ≤ m) (hm : m ≤ c) (w : World) :
    (Instr.slice t (.slice A n c) (some (.int kd (k : Int))) (some (.int kd' (l : Int))) (some (.int kd'' (m : Int)))).run P w = .ok (.slice (cut A m k) (l - k) (m - k)) w := by
  have he : P.elem t = e := by simp [Program.elem, ht]
  obtain ⟨i, hi, hsz⟩ := Option.map_eq_some_iff.1 hs
  have ht' : P.underlying t = some (.slice (P.elem t)) := by rw [he]; exact ht
  rw [run_slice_lhm w t A n c ht' kd kd' kd'' (k : Int) (l : Int) (m : Int) (by omega) (by omega) (by omega) (by omega), he]
  simp [Go.sizeOf, typeInfo, hi, hsz, sliced, Cib.cut]
end
/-- What string(b) answers. -/
theorem run_str {P : Program} (src dst e : TypeId) (hs : P.underlying src = some (.slice e)) (he : P.underlying e = some (.int .u8)) (hd : P.underlying dst = some .string) {w : World} {B : Nat} {A : Option Addr} {bs : List UInt8} (h : Rd w B A (bs.map bv)) {n : Nat} (hn : bs.length = n) (c : Nat) :
    (convert src dst (.slice A n c)).run P w = .ok (.string ⟨bs.toArray⟩) w := by
  subst hn
  rcases A with _ | ad
  · have hb : bs = [] := by
      rcases bs with _ | ⟨x, xs⟩
      · rfl
      · obtain ⟨ad, h, _⟩ := h (by simp)
        cases h
    subst hb
    rw [run_convert_bytes_string w src dst e none _ _ hs he hd]
    unfold Conv.bytesToString
    rfl
  · refine run_convert_bytes_back w src dst e ad c bs hs he hd fun j hj => ?_
    obtain ⟨ad', he', _, hc⟩ := h.byte hj
    injection he' with he'
    subst he'
    exact hc
/-- What []byte(s) answers: the text's bytes in new memory. -/
theorem run_bytes {P : Program} (w : World) (src dst e : TypeId) (s : ByteArray) (hs : P.underlying src = some .string) (hd : P.underlying dst = some (.slice e)) (he : P.underlying e = some (.int .u8)) :
    ∃ c w', (convert src dst (.string s)).run P w = .ok (.slice (some ⟨w.heap.size, 0, none⟩) s.size c) w' ∧ Rd w' (w.heap.size + 1) (some ⟨w.heap.size, 0, none⟩) (s.data.toList.map bv) ∧ Below w.heap.size w w' ∧ w.heap.size < w'.heap.size := by
  refine ⟨_, _, run_bytes_of_string w src dst e s hs hd he, fun hn => ?_, (Below.refl _ _).drew.alloc (Nat.le_refl _) _, by simp⟩
  refine ⟨_, rfl, Nat.lt_succ_self _, fun j hj => ?_⟩
  have e0 : (⟨w.heap.size, 0, none⟩ : Addr).add j = ⟨w.heap.size, j, none⟩ := by
    unfold Addr.add
    split <;> simp_all
  rw [e0]
  refine (World.cell?_alloc_mark w.drew _ _ _ j).trans ?_
  simp at hj
  simp [bytesRow, bv, Array.getElem?_append, hj]
/-- Block g holds just the cells cs of type t, none of them frozen. -/
def Blk (w : World) (g : Nat) (t : TypeId) (cs : Array Value) : Prop := w.heap[g]? = some (.cells cs t (0, 0))
section
variable {w w' : World} {g : Nat} {t : TypeId} {cs : Array Value}
theorem Blk.lt (h : Blk w g t cs) : g < w.heap.size := by
  rcases Nat.lt_or_ge g w.heap.size with hlt | hge
  · exact hlt
  · unfold Blk at h
    rw [Array.getElem?_eq_none hge] at h
    cases h
theorem Blk.cell (h : Blk w g t cs) (i : Nat) : w.cell? ⟨g, i, none⟩ = cs[i]? := cell_of_row w g i cs t (0, 0) h
theorem Blk.frozen (h : Blk w g t cs) (i : Nat) : w.frozen? ⟨g, i, none⟩ = false := frozen_of_row w g i cs t h
theorem Blk.new (w : World) (t : TypeId) (cs : Array Value) : Blk (w.alloc (.cells cs t)) w.heap.size t cs := heap_alloc_new w _
theorem Blk.alloc (h : Blk w g t cs) (o : Obj) : Blk (w.alloc o) g t cs := (Below.heap_alloc w o g h.lt).trans h
theorem Blk.drewN (h : Blk w g t cs) (n : Nat) : Blk (w.drewN n) g t cs := h
theorem Blk.set (h : Blk w g t cs) (i : Nat) (u : Value) : Blk (w.setCell ⟨g, i, none⟩ u) g t (cs.setIfInBounds i u) := heap_setCell_same w g i cs t u h
theorem Blk.far (h : Blk w g t cs) {p : Addr} (hp : g ≠ p.block) (u : Value) : Blk (w.setCell p u) g t cs := (heap_setCell_other w p g u hp).trans h
theorem Blk.row (h : Blk w g t cs) (ds : Array Value) : Blk (w.setRow g ds) g t ds := setRow_heap w g cs ds t (0, 0) h
theorem Blk.rowFar (h : Blk w g t cs) {g' : Nat} (hg : g ≠ g') (ds : Array Value) : Blk (w.setRow g' ds) g t cs := (setRow_other w g' g ds hg).trans h
theorem Blk.below {B : Nat} (h : Blk w g t cs) (hb : Below B w w') (hg : g < B) : Blk w' g t cs := (hb.block g hg).trans h
end
theorem below_drewN {B : Nat} {a w : World} (h : Below B a w) (n : Nat) : Below B a (w.drewN n) := ⟨h.os, h.tape, h.output, h.size, h.block⟩
/-- One more step that keeps all that there was. -/
theorem _root_.Go.RowKit.Below.via {a b c : World} (h : Below a.heap.size a b) (k : Below b.heap.size b c) : Below a.heap.size a c := h.trans (k.mono h.size)
theorem below_setRow {B : Nat} {a w : World} (h : Below B a w) {g : Nat} (hg : B ≤ g) (cs : Array Value) : Below B a (w.setRow g cs) :=
  ⟨h.os, h.tape, h.output, by rw [size_setRow]; exact h.size, fun k hk => (setRow_other w g k cs (by omega)).trans (h.block k hk)⟩
theorem i64_and_one (m : Nat) (h : m ≤ 9223372036854775807) : bits .and .i64 (m : Int) 1 = ((m % 2 : Nat) : Int) := by
  have hx : m &&& 1 = m % 2 := by simp
  have h1 : (BitVec.ofInt 64 (m : Int)).toNat = m := by
    rw [BitVec.ofInt_natCast, BitVec.toNat_ofNat]
    exact Nat.mod_eq_of_lt (by omega)
  have h2 : (BitVec.ofInt 64 1).toNat = 1 := by decide
  show IntKind.i64.wrap ((BitVec.ofInt 64 (m : Int) &&& BitVec.ofInt 64 1).toNat : Int) = _
  rw [BitVec.toNat_and, h1, h2, hx, IntKind.wrap_i64]
  omega
/-- What the shell tells of a slice of bytes that came in, as bytes. -/
theorem row_bytes {w : World} {a : Option Addr} {len cap : Nat} {zs : List Int}
    (h : (a = none ∧ len = 0 ∧ cap = 0 ∧ zs = []) ∨ ∃ x, a = some x ∧ len ≤ cap ∧ cap ≤ maxLen ∧ zs.length = cap ∧ (∀ i, i < zs.length → w.cell? (x.add i) = some (.int .u8 (zs.getD i 0))) ∧ ∀ n ∈ zs, (Lit.int .u8 n).wf = true) :
    ∃ bs : List UInt8, bs.length = len ∧ len ≤ cap ∧ cap ≤ maxLen ∧ Rd w w.heap.size a (bs.map bv) := by
  rcases h with ⟨rfl, rfl, rfl, rfl⟩ | ⟨x, rfl, hl, hm, hz, hc, hw⟩
  · exact ⟨[], rfl, Nat.le_refl _, Nat.zero_le _, Rd.nil _ _ _⟩
  · refine ⟨(zs.take len).map fun n => UInt8.ofNat n.toNat, by simp; omega, hl, hm, fun hn => ⟨x, rfl, ?_, fun j hj => ?_⟩⟩
    · have hp : 0 < zs.length := by
        rcases Nat.eq_zero_or_pos zs.length with h0 | h0
        · have : zs = [] := List.eq_nil_of_length_eq_zero h0
          subst this
          simp at hn
        · exact h0
      have := block_lt_of_cell (hc 0 hp)
      rwa [addr_add_block] at this
    · simp at hj
      rw [hc j (by omega)]
      have hg : zs.getD j 0 = zs[j]'(by omega) := by simp [List.getD, List.getElem?_eq_getElem (show j < zs.length by omega)]
      have hb := bounds_u8 (hw _ (List.getElem_mem (show j < zs.length by omega)))
      simp only [List.getElem_map, List.getElem_take, bv, hg]
      rw [UInt8.toNat_ofNat_of_lt' (by have := hb.1; have := hb.2; show _ < 256; omega)]
      rw [Int.toNat_of_nonneg hb.1]
theorem wf_bv32 {n : Int} (h : (Lit.int .u32 n).wf = true) : ∃ c : BitVec 32, n = (c.toNat : Int) := by
  have hb := bounds_u32 h
  refine ⟨BitVec.ofNat 32 n.toNat, ?_⟩
  rw [BitVec.toNat_ofNat, Nat.mod_eq_of_lt (by omega)]
  omega
section
variable {P : Program} (w : World)
theorem run_app_nil (base : Nat) (t ty e : TypeId) (i : TypeInfo) (ht : P.underlying t = some (.slice e)) (hi : P.info? e = some i)
    (v : Value) (n : Nat) (xs : List Value) (hown : w.ownsRow base e 1 v n xs) (c : Nat) : (Builtin.append_ #[t, t] ty #[v, .slice none 0 c]).run P w = .ok v w := by
  rcases hown.2 with ⟨rfl, rfl⟩ | ⟨g, cap, cur, rfl, _, _, hnc, _⟩
  · simp [Builtin.append_, run_underlying ht, Go.sizeOf, typeInfo, hi, Builtin.lenOf, Builtin.firstCells]
  · simp [Builtin.append_, run_underlying ht, Go.sizeOf, typeInfo, hi, Builtin.lenOf, Builtin.firstCells, hnc, storeCells]
/-- append of what a slice holds, one cell an element, to a slice of the call's own. -/
theorem run_app (base : Nat) (t ty e : TypeId) (i : TypeInfo) (z : Value) (bytes : Nat) (ht : P.underlying t = some (.slice e)) (hi : P.info? e = some i) (hz : i.zero = some z)
    (hsize : i.size = 1) (hby : i.bytes = bytes) (hzs : z.cells.size = 1)
    (A0 : Option Addr) (n0 c0 : Nat) (xs : List Value) (hown : w.ownsRow base e 1 (.slice A0 n0 c0) n0 xs)
    (B : Nat) (A : Option Addr) (m c : Nat) (news : List Value) (hm : news.length = m) (hr : Rd w B A news) (h1 : ∀ u ∈ news, u.oneCell' = true)
    (h63 : n0 + m ≤ maxLen) (hbytes : (n0 + m) * bytes ≤ 140737488355328) (hbase : base ≤ w.heap.size) :
    ∃ A' c' w', (Builtin.append_ #[t, t] ty #[.slice A0 n0 c0, .slice A m c]).run P w = .ok (.slice A' (n0 + m) c') w' ∧ w'.ownsRow base e 1 (.slice A' (n0 + m) c') (n0 + m) (xs ++ news) ∧
      w.grownBy w' (Value.slice A0 n0 c0).ownBlock ∧ Below base w w' := by
  have hform : ∀ (v' : Value) (w' : World), w'.ownsRow base e 1 v' (n0 + m) (xs ++ news) → ∃ A' c', v' = .slice A' (n0 + m) c' := by
    intro v' w' h
    rcases Joins.ownsRow_forms h with ⟨rfl, h0⟩ | ⟨g, cap, rfl⟩
    · exact ⟨none, 0, by rw [h0]⟩
    · exact ⟨_, _, rfl⟩
  have hbel : ∀ w' : World, w.grownBy w' (Value.slice A0 n0 c0).ownBlock → Below base w w' := fun w' hg =>
    (Below.refl base w).grown hg hbase fun k hk => (hown.lt k hk).1
  rcases A with _ | ad
  · have hn : news = [] := by
      rcases news with _ | ⟨x, xs⟩
      · rfl
      · obtain ⟨ad, h, _⟩ := hr (by simp)
        cases h
    subst hn
    have hm0 : m = 0 := by simpa using hm.symm
    subst hm0
    refine ⟨A0, c0, w, run_app_nil w base t ty e i ht hi _ n0 xs hown c, by simpa using hown, World.grownBy.refl w _, Below.refl _ _⟩
  · have hcells : ∀ j u, news[j]? = some u → w.cell? (ad.add j) = some u := by
      intro j u hu
      obtain ⟨hj, he⟩ := List.getElem?_eq_some_iff.1 hu
      obtain ⟨ad', h, _, hc⟩ := hr (by rintro rfl; simp at hj)
      injection h with h
      subst h
      rw [hc j hj, he]
    obtain ⟨v', w', hrun, h2, h3, _, _⟩ := run_append_own_at (P := P) w base t ty e i z 1 bytes ht hi hz hsize hby hzs (by decide) _ n0 xs hown ad m c news (by omega) hcells h1 h63 hbytes hbase
    obtain ⟨A', c', rfl⟩ := hform v' w' h2
    exact ⟨A', c', w', hrun, h2, h3, hbel w' h3⟩
theorem wpList_app {ops : Array Oper} {rest : List Oper} {o : Oper} {a : Act} {Q : Exit → Act → World → Prop} (hgd : o.guard = none) (s x : Operand) (t : TypeId)
    (ho : o.op = .call { callee := .builtin .append, args := #[s, x], argTypes := #[t, t] })
    (base : Nat) (e : TypeId) (i : TypeInfo) (z : Value) (bytes : Nat) (ht : P.underlying t = some (.slice e)) (hi : P.info? e = some i) (hz : i.zero = some z)
    (hsize : i.size = 1) (hby : i.bytes = bytes) (hzs : z.cells.size = 1)
    (A0 : Option Addr) (n0 c0 : Nat) (xs : List Value) (hs : a.eval s = .slice A0 n0 c0) (hown : w.ownsRow base e 1 (.slice A0 n0 c0) n0 xs)
    (B : Nat) (A : Option Addr) (m c : Nat) (news : List Value) (hx : a.eval x = .slice A m c) (hm : news.length = m) (hr : Rd w B A news) (h1 : ∀ u ∈ news, u.oneCell' = true)
    (h63 : n0 + m ≤ maxLen) (hbytes : (n0 + m) * bytes ≤ 140737488355328) (hbase : base ≤ w.heap.size)
    (h : ∀ A' c' w', w'.ownsRow base e 1 (.slice A' (n0 + m) c') (n0 + m) (xs ++ news) → w.grownBy w' (Value.slice A0 n0 c0).ownBlock → Below base w w' → wpList P ops Q rest (a.put o.dst (.slice A' (n0 + m) c')) w') :
    wpList P ops Q (o :: rest) a w := by
  refine wpList_plain hgd fun K hK => ?_
  obtain ⟨A', c', w', hrun, h2, h3, h4⟩ := run_app (P := P) w base t o.type e i z bytes ht hi hz hsize hby hzs A0 n0 c0 xs hown B A m c news hm hr h1 h63 hbytes hbase
  unfold Oper.wp execOp
  simp only [ho, resolve, invoke, builtin, Sem.run_bind, Sem.run_pure, Result.andThen_ok, List.map_toArray, List.map_cons, List.map_nil, hs, hx, hrun]
  exact hK _ _ (h A' c' w' h2 h3 h4)
end
theorem one_byte {b : UInt8} : ∀ u ∈ [bv b], u.oneCell' = true := by
  intro u hu
  rw [List.mem_singleton] at hu
  subst hu
  rfl
theorem own_cap {w : World} {base : Nat} {e : TypeId} {A : Option Addr} {n c : Nat} {vs : List Value} (h : w.ownsRow base e 1 (.slice A n c) n vs) : n ≤ c ∧ c ≤ maxLen := by
  rcases h.2 with ⟨hv, h0⟩ | ⟨g, cp, cur, hv, _, _, h1, h2, _⟩
  · injection hv with _ _ hc
    subst hc
    subst h0
    exact ⟨Nat.le_refl _, Nat.zero_le _⟩
  · injection hv with _ _ hc
    subst hc
    exact ⟨h1, h2⟩
theorem own_at {w : World} {base : Nat} {e : TypeId} {A : Option Addr} {n c : Nat} {vs : List Value} (h : w.ownsRow base e 1 (.slice A n c) n vs) (hn : 0 < n) : ∃ g, A = some ⟨g, 0, none⟩ ∧ base ≤ g := by
  obtain ⟨g, cap, hv, hb, _⟩ := h.form hn
  have hA : A = some ⟨g, 0, none⟩ := by injection hv
  exact ⟨g, hA, hb⟩
theorem own_made (w : World) (base : Nat) (e : TypeId) (z : Value) (n c : Nat) (hb : base ≤ w.heap.size) (hn : n ≤ c) (hc : c ≤ maxLen) :
    (w.alloc (.cells (madeCells #[z] c) e)).ownsRow base e 1 (.slice (some ⟨w.heap.size, 0, none⟩) n c) n (List.replicate n z) := by
  refine ⟨by simp, .inr ⟨w.heap.size, c, madeCells #[z] c, rfl, hb, heap_alloc_new w _, hn, hc, by simp [size_madeCells], ?_⟩⟩
  apply List.ext_getElem
  · simp [size_madeCells]; omega
  · intro i h1 h2
    simp [madeCells, Nat.mod_one]
/-- A text of noughts of which the first k are those of another. -/
def fillB (bs : List UInt8) (k : Nat) : List UInt8 := bs.take k ++ List.replicate (bs.length - k) 0
theorem fillB_length (bs : List UInt8) (k : Nat) (h : k ≤ bs.length) : (fillB bs k).length = bs.length := by simp [fillB]; omega
theorem fillB_zero (bs : List UInt8) : fillB bs 0 = List.replicate bs.length 0 := by simp [fillB]
theorem fillB_all (bs : List UInt8) : fillB bs bs.length = bs := by simp [fillB]
theorem fillB_set (bs : List UInt8) (k : Nat) (h : k < bs.length) : (fillB bs k).set k bs[k] = fillB bs (k + 1) := by
  unfold fillB
  have e : bs.length - k = (bs.length - (k + 1)) + 1 := by omega
  have hl : (bs.take k).length = k := by simp; omega
  rw [List.set_append_right _ _ (by omega), hl, Nat.sub_self, e, List.replicate_succ, List.set_cons_zero, List.take_succ_eq_append_getElem h, List.append_assoc]
  rfl
/-- Place j of a slice of bytes of the call's own, and what a store there makes. -/
theorem own_byte {w : World} {base g n c : Nat} {e : TypeId} {bs : List UInt8} (h : w.ownsRow base e 1 (.slice (some ⟨g, 0, none⟩) n c) n (bs.map bv)) {j : Nat} (hj : j < bs.length) :
    w.cell? ⟨g, j, none⟩ = some (.int .u8 ((bs[j]).toNat : Int)) ∧ w.frozen? ⟨g, j, none⟩ = false ∧
      ∀ (b : UInt8) (k : Nat), (w.drewN k).setCell ⟨g, j, none⟩ (.int .u8 (b.toNat : Int)) |>.ownsRow base e 1 (.slice (some ⟨g, 0, none⟩) n c) n ((bs.set j b).map bv) := by
  have hl : bs.length = n := by simpa using h.1
  refine ⟨?_, h.frozenAt j, fun b k => ?_⟩
  · rw [h.cellAt j (by omega)]
    simp [hj, bv]
  · rw [List.map_set]
    exact (World.ownsRow.stored (w := w.drewN k) h j (bv b)).1
theorem one_bytes {bs : List UInt8} : ∀ u ∈ bs.map bv, u.oneCell' = true := by
  intro u hu
  obtain ⟨b, _, rfl⟩ := List.mem_map.1 hu
  rfl
theorem ret_eq {a b : Value} (h : a = b) : Ending.returned a = .returned b := by rw [h]
theorem int_eq {k : IntKind} {a b : Int} (h : a = b) : Value.int k a = .int k b := by rw [h]
theorem nat_eq {k : IntKind} {a b : Nat} (h : a = b) : Value.int k (a : Int) = .int k (b : Int) := by rw [h]
theorem bool_eq {a b : Bool} (h : a = b) : Value.bool a = .bool b := by rw [h]
end Cib

end
/-! FldO -/
section
set_option linter.unusedVariables false
set_option linter.unusedSimpArgs false
set_option maxRecDepth 40000
namespace Cib
open Go Go.RowKit Go.Proofs

theorem disable (w : World) : (callFunc 84 #[]).run Try.prog w = .ok (.value (.tuple #[])) w := run_call_mark0 Try.func84 (by kernel_rfl) (by kernel_rfl) (by kernel_rfl) .disable (by kernel_rfl) w
theorem enable (w : World) : (callFunc 86 #[]).run Try.prog w = .ok (.value (.tuple #[])) w := run_call_mark0 Try.func86 (by kernel_rfl) (by kernel_rfl) (by kernel_rfl) .enable (by kernel_rfl) w
theorem acquire (a : Addr) (w : World) : (callFunc 87 #[.pointer (some a)]).run Try.prog w = .ok (.value (.tuple #[])) w := run_call_marked Try.func87 (by kernel_rfl) (by kernel_rfl) (by kernel_rfl) .acquire (by kernel_rfl) a w
theorem releaseMerge (a : Addr) (w : World) : (callFunc 89 #[.pointer (some a)]).run Try.prog w = .ok (.value (.tuple #[])) w := run_call_marked Try.func89 (by kernel_rfl) (by kernel_rfl) (by kernel_rfl) .releaseMerge (by kernel_rfl) a w

/-- Store(true), entered as a deferred call: the cell holds 1. -/
theorem store_deferred (a : Addr) (x : Value) (u : FrameMode) (w : World) (hc : w.cell? a = some x) (hz : w.frozen? a = false) :
    CallsD Try.prog 72 #[.pointer (some a), .bool true] u w fun e u' w' => u' = u ∧ (e = .returned (.tuple #[]) ∧ w' = w.drew.setCell a (.int .u32 1)) := by
  have hc' : w.drew.cell? a = some x := by go_simp
  have hz' : w.drew.frozen? a = false := by go_simp
  have hst := run_call_store (P := Try.prog) Try.func80 (by kernel_rfl) (by kernel_rfl) (by kernel_rfl) (by kernel_rfl) (k := .u32) (y := 1) hc' hz'
  go_enter_d Try.func72, Try.ntmps72
  go_wp2
  go_region_calls
  all_goals (go_end0; exact ⟨rfl, rfl⟩)

/-- Unlock of the inner lock, held, nobody waiting (state 1): state 0. -/
theorem unlock_in (a : Addr) (w : World) (hc : w.cell? a = some (.int .i32 1)) (hz : w.frozen? a = false) :
    Calls Try.prog 79 #[.pointer (some a)] w fun e w' => e = .returned (.tuple #[]) ∧ w' = w.setCell a (.int .i32 0) := by
  have hd := disable
  have he := enable
  have hr := releaseMerge
  have hadd := run_call_add (P := Try.prog) Try.func90 (by kernel_rfl) (by kernel_rfl) (by kernel_rfl) .i32 (by kernel_rfl) (y := -1) (s := 0) hc hz (by simp [go_sem]; rfl)
  have hcv := run_convert_to_unsafe (P := Try.prog) (src := 132) (dst := 136) Try.underlying132 Try.underlying136 (by kernel_rfl) hc
  go_enter Try.func79, Try.ntmps79
  go_wp2
  go_end0
  exact ⟨rfl, rfl⟩
/-- Unlock, entered as a deferred call. -/
theorem unlock_deferred (g o : Nat) (u : FrameMode) (w : World) (hc : w.cell? ⟨g, o, none⟩ = some (.int .i32 1)) (hz : w.frozen? ⟨g, o, none⟩ = false) :
    CallsD Try.prog 71 #[.pointer (some ⟨g, o, none⟩)] u w fun e u' w' => u' = u ∧ (e = .returned (.tuple #[]) ∧ w' = w.setCell ⟨g, o, none⟩ (.int .i32 0)) := by
  go_enter_d Try.func71, Try.ntmps71
  go_wp2_with (go_at_call 79; refine (unlock_in ⟨g, o, none⟩ _ (by go_simp) (by go_simp)).mono ?_; rintro e w' ⟨rfl, rfl⟩)
  go_end0
  exact ⟨rfl, rfl⟩

theorem lock_in (a : Addr) (w : World) (hc : w.cell? a = some (.int .i32 0)) (hz : w.frozen? a = false) :
    Calls Try.prog 78 #[.pointer (some a)] w fun e w' => e = .returned (.tuple #[]) ∧ w' = w.setCell a (.int .i32 1) := by
  have hd := disable
  have he := enable
  have ha := acquire
  have hcas := run_call_cas_hit (P := Try.prog) Try.func85 (by kernel_rfl) (by kernel_rfl) (by kernel_rfl) .i32 (by kernel_rfl) (y := 1) hc hz
  have hc' : (w.setCell a (.int .i32 1)).cell? a = some (.int .i32 1) := World.cell?_setCell_same w a _ hc
  have hcv := run_convert_to_unsafe (P := Try.prog) (src := 132) (dst := 136) Try.underlying132 Try.underlying136 (by kernel_rfl) hc'
  go_enter Try.func78, Try.ntmps78
  go_wp2
  first | go_end0 | (simp only [Exit.inBlock, Exit.then]; refine bodyPost_ret (results_none rfl _ _ _) rfl ?_) | refine bodyPost_ret (results_none rfl _ _ _) rfl ?_
  exact ⟨rfl, rfl⟩
theorem lock_free (g o : Nat) (w : World) (hc : w.cell? ⟨g, o, none⟩ = some (.int .i32 0)) (hz : w.frozen? ⟨g, o, none⟩ = false) :
    Calls Try.prog 70 #[.pointer (some ⟨g, o, none⟩)] w fun e w' => e = .returned (.tuple #[]) ∧ w' = w.setCell ⟨g, o, none⟩ (.int .i32 1) := by
  go_enter Try.func70, Try.ntmps70
  go_wp2_with (go_at_call 78; refine (lock_in ⟨g, o, none⟩ _ (by go_simp) (by go_simp)).mono ?_; rintro e w' ⟨rfl, rfl⟩)
  go_end0
  exact ⟨rfl, rfl⟩
end Cib

end
/-! FldC -/
section
set_option linter.unusedVariables false
set_option linter.unusedSimpArgs false
namespace Cib
open Go Go.RowKit Go.Proofs

/-- Cells told by their number. -/
def cellsOf (n : Nat) (f : Nat → Value) : Array Value := ((List.range n).map f).toArray
theorem cellsOf_get {n : Nat} {f : Nat → Value} {k : Nat} (h : k < n) : (cellsOf n f)[k]? = some (f k) := by
  simp [cellsOf, h]
theorem cellsOf_size {n : Nat} {f : Nat → Value} : (cellsOf n f).size = n := by simp [cellsOf]
theorem cellsOf_congr {n : Nat} {f g : Nat → Value} (h : ∀ j, j < n → f j = g j) : cellsOf n f = cellsOf n g := by
  unfold cellsOf
  congr 1
  exact List.map_congr_left fun j hj => h j (List.mem_range.1 hj)
theorem cellsOf_set {n : Nat} {f : Nat → Value} (k : Nat) (v : Value) : (cellsOf n f).setIfInBounds k v = cellsOf n (fun j => if j = k then v else f j) := by
  apply Array.ext
  · simp [cellsOf]
  · intro i h1 h2
    simp only [cellsOf, Array.size_setIfInBounds, List.size_toArray, List.length_map, List.length_range] at h1 h2
    by_cases hk : k = i
    · subst hk
      simp [cellsOf]
    · have hk' : i ≠ k := fun h => hk h.symm
      simp [cellsOf, Array.getElem_setIfInBounds, hk, hk']

/-- What the table of powers holds, where so many are known. -/
def expAt (i j : Nat) : Nat := if j % 255 < i then Fld.pw (j % 255) else 0
/-- A field's cells: is it done; is it locked; how many powers are known. -/
def fcell (d s i j : Nat) : Value :=
  if j = 0 then .int .u32 (d : Int) else if j = 1 then .int .i32 (s : Int) else if j = 2 then .int .u32 0 else if j = 3 then .bool true
  else if j < 514 then .int .u8 (expAt i (j - 4) : Int) else .int .i64 (Fld.lg i (j - 514) : Int)
def fcells (d s i : Nat) : Array Value := cellsOf 770 (fcell d s i)
theorem fcells_get {d s i j : Nat} (h : j < 770) : (fcells d s i)[j]? = some (fcell d s i j) := cellsOf_get h
theorem fcells_done {d s i : Nat} : (fcells d s i)[0]? = some (.int .u32 (d : Int)) := fcells_get (by decide)
theorem fcells_lock {d s i : Nat} : (fcells d s i)[1]? = some (.int .i32 (s : Int)) := fcells_get (by decide)
theorem fcells_made {d s i : Nat} : (fcells d s i)[3]? = some (.bool true) := fcells_get (by decide)
theorem fcells_exp {d s i j : Nat} (h : j < 510) : (fcells d s i)[4 + j]? = some (.int .u8 (expAt i j : Int)) := by
  rw [fcells_get (by omega)]
  unfold fcell
  rw [if_neg (by omega), if_neg (by omega), if_neg (by omega), if_neg (by omega), if_pos (by omega), show 4 + j - 4 = j from by omega]
theorem fcells_log {d s i v : Nat} (h : v < 256) : (fcells d s i)[514 + v]? = some (.int .i64 (Fld.lg i v : Int)) := by
  rw [fcells_get (by omega)]
  unfold fcell
  rw [if_neg (by omega), if_neg (by omega), if_neg (by omega), if_neg (by omega), if_neg (by omega), show 514 + v - 514 = v from by omega]
theorem expAt_full {j : Nat} : expAt 255 j = Fld.pw j := by
  unfold expAt
  rw [if_pos (Nat.mod_lt _ (by decide)), ← Fld.pw_mod]
/-- One round of making: two powers, one logarithm. -/
theorem fcells_next {d s i : Nat} (hi : i < 255) :
    (((fcells d s i).setIfInBounds (4 + i) (.int .u8 (Fld.pw i : Int))).setIfInBounds (4 + (i + 255)) (.int .u8 (Fld.pw i : Int))).setIfInBounds (514 + Fld.pw i) (.int .i64 (i : Int)) = fcells d s (i + 1) := by
  unfold fcells
  rw [cellsOf_set, cellsOf_set, cellsOf_set]
  have hp := Fld.pw_lt i
  apply cellsOf_congr
  intro j hj
  by_cases h1 : j = 514 + Fld.pw i
  · rw [if_pos h1]
    subst h1
    unfold fcell
    rw [if_neg (by omega), if_neg (by omega), if_neg (by omega), if_neg (by omega), if_neg (by omega)]
    unfold Fld.lg
    rw [if_pos (by omega)]
  · rw [if_neg h1]
    by_cases h2 : j = 4 + (i + 255)
    · rw [if_pos h2]
      subst h2
      unfold fcell
      rw [if_neg (by omega), if_neg (by omega), if_neg (by omega), if_neg (by omega), if_pos (by omega)]
      unfold expAt
      rw [if_pos (by omega), show (4 + (i + 255) - 4) % 255 = i from by omega]
    · rw [if_neg h2]
      by_cases h3 : j = 4 + i
      · rw [if_pos h3]
        subst h3
        unfold fcell
        rw [if_neg (by omega), if_neg (by omega), if_neg (by omega), if_neg (by omega), if_pos (by omega)]
        unfold expAt
        rw [if_pos (by omega), show (4 + i - 4) % 255 = i from by omega]
      · rw [if_neg h3]
        unfold fcell
        by_cases h4 : j < 514
        · have : expAt (i + 1) (j - 4) = expAt i (j - 4) ∨ j < 4 := by
            unfold expAt
            by_cases h5 : j < 4
            · right; exact h5
            · left
              by_cases h6 : (j - 4) % 255 < i
              · rw [if_pos h6, if_pos (by omega)]
              · rw [if_neg h6, if_neg (by omega)]
          rcases this with h | h
          · rw [if_pos h4, if_pos h4, h]
          · have : j = 0 ∨ j = 1 ∨ j = 2 ∨ j = 3 := by omega
            rcases this with h | h | h | h <;> subst h <;> rfl
        · rw [if_neg (by omega), if_neg (by omega), if_neg (by omega), if_neg (by omega), if_neg h4]
          rw [if_neg (by omega), if_neg (by omega), if_neg (by omega), if_neg (by omega), if_neg h4]
          conv => rhs; unfold Fld.lg
          rw [if_neg (by omega)]
theorem fcells_set_done {d s i d' : Nat} : (fcells d s i).setIfInBounds 0 (.int .u32 (d' : Int)) = fcells d' s i := by
  unfold fcells
  rw [cellsOf_set]
  apply cellsOf_congr
  intro j hj
  unfold fcell
  by_cases h : j = 0
  · simp [h]
  · simp [h]
theorem fcells_set_lock {d s i s' : Nat} : (fcells d s i).setIfInBounds 1 (.int .i32 (s' : Int)) = fcells d s' i := by
  unfold fcells
  rw [cellsOf_set]
  apply cellsOf_congr
  intro j hj
  unfold fcell
  by_cases h : j = 1
  · simp [h]
  · simp [h]
/-- What a new field's cells are. -/
theorem fcells_new : fcells 0 0 0 = (#[.int .u32 0, .int .i32 0, .int .u32 0, .bool true] ++ Array.replicate 510 (.int .u8 0)) ++ Array.replicate 256 (.int .i64 0) := by kernel_rfl
end Cib

end
/-! FldN -/
section
set_option linter.unusedVariables false
set_option linter.unusedSimpArgs false
namespace Cib
open Go Go.RowKit Go.Proofs

theorem wpList_buildAs {P : Program} {ops : Array Oper} {rest : List Oper} {o : Oper} {a : Act} {w : World} {Q : Exit → Act → World → Prop} (hg : o.guard = none) (t : TypeId) (parts : Array (Nat × Operand)) (ho : o.op = .build t parts)
    (cells : Array Value) {l : List (Nat × Value)} (hb : P.built t l = some cells) (hl : (parts.map fun (i, x) => (i, a.eval x)).toList = l)
    (h : wpList P ops Q rest (a.put o.dst (.agg cells)) w) : wpList P ops Q (o :: rest) a w :=
  wpList_build hg t parts ho (by rw [hl, hb]; rfl) (by rw [hl, hb]; exact h)
theorem fldBuilt : Try.prog.built 70 [(1, .bool true)] = some (fcells 0 0 0) := by kernel_rfl
theorem fldNew (w : World) : Calls Try.prog 6 #[] w fun e w' => e = .returned (.pointer (some ⟨w.heap.size, 0, none⟩)) ∧ w' = w.alloc (.cells (fcells 0 0 0) 70) := by
  have hb := fldBuilt
  generalize fcells 0 0 0 = C at hb ⊢
  go_enter Try.func6, Try.ntmps6
  go_wp2_with (refine wpList_buildAs rfl 70 _ rfl C hb (by simp [go_sem]) ?_)
  go_ret
  exact ⟨rfl, rfl⟩
end Cib

end
/-! FldF -/
section
set_option linter.unusedVariables false
set_option linter.unusedSimpArgs false
set_option maxRecDepth 20000
namespace Cib
open Go Go.RowKit Go.Proofs

theorem xt_big {x : Nat} (h : x < 256) (hb : 256 ≤ 2 * x) : bits .xor .i64 ((2 * x : Nat) : Int) 285 = (Fld.xt x : Int) := by
  have h1 : (BitVec.ofInt 64 ((2 * x : Nat) : Int)).toNat = 2 * x := by
    rw [BitVec.ofInt_natCast, BitVec.toNat_ofNat]
    exact Nat.mod_eq_of_lt (by omega)
  have h2 : (BitVec.ofInt 64 285).toNat = 285 := by decide
  have h3 : 2 * x ^^^ 285 < 512 := Nat.xor_lt_two_pow (n := 9) (by omega) (by decide)
  show IntKind.i64.wrap ((BitVec.ofInt 64 ((2 * x : Nat) : Int) ^^^ BitVec.ofInt 64 285).toNat : Int) = _
  rw [BitVec.toNat_xor, h1, h2, IntKind.wrap_i64]
  unfold Fld.xt
  rw [if_pos hb]
  omega
theorem drewN_setRow (w : World) (n g : Nat) (cs : Array Value) : (w.drewN n).setRow g cs = (w.setRow g cs).drewN n := rfl
theorem setCell_row {w : World} {g : Nat} {t : TypeId} {cs : Array Value} (hb : Blk w g t cs) (ds : Array Value) (n i : Nat) (v : Value) :
    ((w.setRow g ds).drewN n).setCell ⟨g, i, none⟩ v = (w.setRow g (ds.setIfInBounds i v)).drewN n := by
  rw [setCell_eq_setRow _ g i ds t (0, 0) v ((hb.row ds).drewN n), drewN_setRow, setRow_setRow]
theorem fldFill (g d s : Nat) (w : World) (hb : Blk w g 70 (fcells d s 0)) :
    Calls Try.prog 58 #[.pointer (some ⟨g, 0, none⟩)] w fun e w' => e = .returned (.tuple #[]) ∧ ∃ n, w' = (w.setRow g (fcells d s 255)).drewN n := by
  go_enter Try.func58, Try.ntmps58
  go_wp2
  go_loopw [2, 3, 4] (fun x _ i wr => ∃ k : Nat, k ≤ 255 ∧ i = .int .i64 k ∧ x = .int .i64 (Fld.pw k : Nat) ∧ ∃ n, wr = (w.setRow g (fcells d s k)).drewN n) (fun _ _ i _ => 255 - (intOf i).toNat)
  case atStart => exact ⟨0, Nat.zero_le _, rfl, rfl, 0, by
    have : w.setRow g (fcells d s 0) = w := setRow_self w g _ _ _ hb
    rw [this]; rfl⟩
  case round =>
    obtain ⟨k, hk, rfl, rfl, n, rfl⟩ := hrel
    by_cases hlt : k < 255
    · have hB : Blk ((w.setRow g (fcells d s k)).drewN n) g 70 (fcells d s k) := (hb.row _).drewN n
      have hp := Fld.pw_lt k
      generalize hw1 : (w.setRow g (fcells d s k)).drewN n = w1 at hB ⊢
      have hc1 := (hB.cell (4 + k)).trans (fcells_exp (j := k) (by omega))
      have hc2 := (hB.cell (4 + (k + 255))).trans (fcells_exp (j := k + 255) (by omega))
      have hc3 := (hB.cell (514 + Fld.pw k)).trans (fcells_log hp)
      have hf1 := hB.frozen (4 + k)
      have hf2 := hB.frozen (4 + (k + 255))
      have hf3 := hB.frozen (514 + Fld.pw k)
      go_wp2
      have hcv : IntKind.u8.wrap (Fld.pw k : Int) = (Fld.pw k : Int) := by rw [IntKind.wrap_u8']; omega
      go_region
      have hw2 : ((w1.setCell ⟨g, 4 + k, none⟩ (.int .u8 (Fld.pw k : Nat))).setCell ⟨g, 4 + (k + 255), none⟩ (.int .u8 (Fld.pw k : Nat))).drew = (w.setRow g (((fcells d s k).setIfInBounds (4 + k) (.int .u8 (Fld.pw k : Nat))).setIfInBounds (4 + (k + 255)) (.int .u8 (Fld.pw k : Nat)))).drewN (n + 1) := by
        rw [← hw1, setCell_row hb, setCell_row hb]
        rfl
      have hB2 := ((hB.set (4 + k) (.int .u8 (Fld.pw k : Nat))).set (4 + (k + 255)) (.int .u8 (Fld.pw k : Nat))).drewN 1
      rw [hw2]
      clear hw2
      clear hcv hc1 hc2 hc3 hf1 hf2 hf3 hB2
      have hB3 : Blk ((w.setRow g (((fcells d s k).setIfInBounds (4 + k) (.int .u8 (Fld.pw k : Nat))).setIfInBounds (4 + (k + 255)) (.int .u8 (Fld.pw k : Nat)))).drewN (n + 1)) g 70 _ := (hb.row _).drewN (n + 1)
      have hn := setCell_row hb (((fcells d s k).setIfInBounds (4 + k) (.int .u8 (Fld.pw k : Nat))).setIfInBounds (4 + (k + 255)) (.int .u8 (Fld.pw k : Nat))) (n + 1) (514 + Fld.pw k) (.int .i64 (k : Nat))
      rw [fcells_next hlt] at hn
      clear hB hw1
      generalize (w.setRow g (((fcells d s k).setIfInBounds (4 + k) (.int .u8 (Fld.pw k : Nat))).setIfInBounds (4 + (k + 255)) (.int .u8 (Fld.pw k : Nat)))).drewN (n + 1) = w3 at hB3 hn ⊢
      have hcx := hB3.cell (514 + Fld.pw k)
      obtain ⟨v, hv⟩ : ∃ v, (((fcells d s k).setIfInBounds (4 + k) (.int .u8 (Fld.pw k : Nat))).setIfInBounds (4 + (k + 255)) (.int .u8 (Fld.pw k : Nat)))[514 + Fld.pw k]? = some v := ⟨_, Array.getElem?_eq_getElem (by simp [fcells, cellsOf_size]; omega)⟩
      rw [hv] at hcx
      have hfx := hB3.frozen (514 + Fld.pw k)
      by_cases hbig : 256 ≤ 2 * Fld.pw k
      · have hx := xt_big hp hbig
        rw [show ((2 * Fld.pw k : Nat) : Int) = (Fld.pw k : Int) * 2 from by omega] at hx
        have HX := Lib.hid hx
        clear hx
        go_wp2
        exact ⟨⟨k + 1, by omega, by go_num, int_eq HX.out, n + 1, rfl⟩, by simp [intOf]; omega⟩
      · go_wp2
        refine ⟨⟨k + 1, by omega, by go_num, ?_, n + 1, rfl⟩, by simp [intOf]; omega⟩
        show Value.int .i64 ((Fld.pw k : Int) * 2) = .int .i64 ((Fld.xt (Fld.pw k) : Nat) : Int)
        unfold Fld.xt
        rw [if_neg hbig]
        exact int_eq (by omega)
    · go_wp2
      go_end0
      obtain rfl : k = 255 := by omega
      exact ⟨rfl, n, rfl⟩
end Cib

end
/-! FldR -/
section
set_option linter.unusedVariables false
set_option linter.unusedSimpArgs false
set_option maxRecDepth 20000
namespace Cib
open Go Go.RowKit Go.Proofs

theorem bool_load (g o : Nat) (d : Nat) (w : World) (h0 : w.cell? ⟨g, o, none⟩ = some (.int .u32 (d : Int))) :
    Calls Try.prog 63 #[.pointer (some ⟨g, o, none⟩)] w fun e w' => e = .returned (.bool ((d : Int) != 0)) ∧ w' = w := by
  have hl := run_call_load (P := Try.prog) Try.func69 (by kernel_rfl) (by kernel_rfl) (by kernel_rfl) .u32 (by kernel_rfl) h0
  go_enter Try.func63, Try.ntmps63
  go_wp2
  go_ret
  exact ⟨rfl, rfl⟩
set_option maxHeartbeats 1600000 in
theorem fldSlow (g : Nat) (w : World) (hb : Blk w g 70 (fcells 0 0 0)) :
    Calls Try.prog 64 #[.pointer (some ⟨g, 0, none⟩), .func (.func 58) #[.pointer (some ⟨g, 0, none⟩)] #[]] w fun e w' => e = .returned (.tuple #[]) ∧ ∃ n, w' = (w.setRow g (fcells 1 0 255)).drewN n := by
  have h0 := (hb.cell 0).trans fcells_done
  have h1 := (hb.cell 1).trans fcells_lock
  have f0 := hb.frozen 0
  have f1 := hb.frozen 1
  have e1 : w.setCell ⟨g, 1, none⟩ (.int .i32 1) = w.setRow g (fcells 0 1 0) := by
    rw [setCell_eq_setRow w g 1 _ _ _ _ hb]
    exact congrArg _ (fcells_set_lock (s' := 1))
  have hB1 : Blk (w.setRow g (fcells 0 1 0)) g 70 (fcells 0 1 0) := hb.row _
  have HL := Lib.hid (bool_load g 0 0 _ ((hB1.cell 0).trans fcells_done))
  have hnot : ∀ (x : Bool) (w : World), (Op.unary .not (.bool x)).run Try.prog w = .ok (.bool (!x)) w := fun _ _ => rfl
  have HF := Lib.hid (fldFill g 0 1 (w.setRow g (fcells 0 1 0)) hB1)
  clear hB1
  go_enter_defers Try.func64, Try.ntmps64
  go_wp2_with (first | (go_at_call 70; refine (lock_free g 1 _ (by go_simp) (by go_simp)).mono ?_; rintro e w' ⟨rfl, rfl⟩; rw [e1]) | (go_at_call 63; refine HL.out.mono ?_; rintro e w' ⟨rfl, rfl⟩) | (go_at_call 58; refine HF.out.mono ?_; rintro e w' ⟨rfl, n, rfl⟩))
  rw [setRow_setRow]
  try go_wp2
  clear HF HL h0 h1 f0 f1 e1
  have hB2 : Blk ((w.setRow g (fcells 0 1 255)).drewN n) g 70 (fcells 0 1 255) := (hb.row _).drewN n
  have e2 : ((w.setRow g (fcells 0 1 255)).drewN n).drew.setCell ⟨g, 0, none⟩ (.int .u32 1) = (w.setRow g (fcells 1 1 255)).drewN (n + 1) := by
    show ((w.setRow g (fcells 0 1 255)).drewN (n + 1)).setCell ⟨g, 0, none⟩ (.int .u32 1) = _
    rw [setCell_row hb]
    exact congrArg (fun c => (w.setRow g c).drewN (n + 1)) (fcells_set_done (d' := 1))
  have hB3 : Blk ((w.setRow g (fcells 1 1 255)).drewN (n + 1)) g 70 (fcells 1 1 255) := (hb.row _).drewN (n + 1)
  have e3 : ((w.setRow g (fcells 1 1 255)).drewN (n + 1)).setCell ⟨g, 1, none⟩ (.int .i32 0) = (w.setRow g (fcells 1 0 255)).drewN (n + 1) := by
    rw [setCell_row hb]
    exact congrArg (fun c => (w.setRow g c).drewN (n + 1)) (fcells_set_lock (s' := 0))
  refine leaves_cons (f := 72) (args := #[.pointer (some ⟨g, 0, none⟩), .bool true]) (by simp) (by simp [go_sem]) ?_
  refine (store_deferred ⟨g, 0, none⟩ _ .returning _ ((hB2.cell 0).trans fcells_done) (hB2.frozen 0)).mono ?_
  rintro e u' w'' ⟨rfl, rfl, rfl⟩
  rw [e2]
  refine leaves_cons (f := 71) (args := #[.pointer (some ⟨g, 1, none⟩)]) (by simp [settle]) (by simp [go_sem]) ?_
  refine (unlock_deferred g 1 _ _ ((hB3.cell 1).trans fcells_lock) (hB3.frozen 1)).mono ?_
  rintro e u' w'' ⟨rfl, rfl, rfl⟩
  rw [e3]
  simp [Leaves, settle, results, Try.results64]
  exact ⟨n + 1, rfl⟩
/-- A field's memory: new, or with its tables. -/
def Fld (w : World) (g : Nat) : Prop := Blk w g 70 (fcells 0 0 0) ∨ Blk w g 70 (fcells 1 0 255)
theorem fldDo (g : Nat) (w : World) (hb : Fld w g) :
    Calls Try.prog 57 #[.pointer (some ⟨g, 0, none⟩), .func (.func 58) #[.pointer (some ⟨g, 0, none⟩)] #[]] w fun e w' => e = .returned (.tuple #[]) ∧ ∃ n, w' = (w.setRow g (fcells 1 0 255)).drewN n := by
  have hnot : ∀ (x : Bool) (w : World), (Op.unary .not (.bool x)).run Try.prog w = .ok (.bool (!x)) w := fun _ _ => rfl
  rcases hb with hb | hb
  · have HL := Lib.hid (bool_load g 0 0 _ ((hb.cell 0).trans fcells_done))
    have HS := Lib.hid (fldSlow g w hb)
    clear hb
    generalize fcells 1 0 255 = C at HS ⊢
    go_enter Try.func57, Try.ntmps57
    go_wp2_with (first | (go_at_call 63; refine HL.out.mono ?_; rintro e w' ⟨rfl, rfl⟩) | (go_at_call 64; refine HS.out.mono ?_; rintro e w' ⟨rfl, n, rfl⟩))
    go_end0
    exact ⟨rfl, n, rfl⟩
  · have HL := Lib.hid (bool_load g 0 1 _ ((hb.cell 0).trans fcells_done))
    have HE : Hid (w.setRow g (fcells 1 0 255) = w) := setRow_self w g _ _ _ hb
    clear hb
    generalize fcells 1 0 255 = C at HE ⊢
    go_enter Try.func57, Try.ntmps57
    go_wp2_with (go_at_call 63; refine HL.out.mono ?_; rintro e w' ⟨rfl, rfl⟩)
    go_end0
    exact ⟨rfl, 0, HE.out.symm⟩
theorem Fld.made {w : World} {g : Nat} (h : Fld w g) : w.cell? ⟨g, 3, none⟩ = some (.bool true) := by
  rcases h with h | h <;> exact (h.cell 3).trans fcells_made
theorem fldReady (g : Nat) (w : World) (hb : Fld w g) :
    Calls Try.prog 48 #[.pointer (some ⟨g, 0, none⟩)] w fun e w' => e = .returned (.bool true) ∧ ∃ n, w' = (w.setRow g (fcells 1 0 255)).drewN n := by
  have hm := hb.made
  have HD := Lib.hid (fldDo g w hb)
  have hmf : ∀ (fn : Fn) (first cap : Array Value) (w : World), (Instr.makeFunc fn first cap).run Try.prog w = .ok (.func fn first cap) w := fun _ _ _ _ => rfl
  clear hb
  generalize fcells 1 0 255 = C at HD ⊢
  go_enter Try.func48, Try.ntmps48
  go_wp2_with (go_at_call 57; refine HD.out.mono ?_; rintro e w' ⟨rfl, n, rfl⟩)
  go_ret
  exact ⟨rfl, n, rfl⟩
end Cib

end
/-! FldT -/
section
set_option linter.unusedVariables false
set_option linter.unusedSimpArgs false
set_option maxRecDepth 20000
namespace Cib
open Go Go.RowKit Go.Proofs

/-- A field's memory with its tables. -/
def Full (w : World) (g : Nat) : Prop := Blk w g 70 (fcells 1 0 255)
section
variable {w : World} {g : Nat}
theorem Full.fld (h : Full w g) : Fld w g := Or.inr h
theorem Full.drewN (h : Full w g) (n : Nat) : Full (w.drewN n) g := h
theorem Full.log (h : Full w g) {v : Nat} (hv : v < 256) : w.cell? ⟨g, 514 + v, none⟩ = some (.int .i64 (Fld.lg 255 v : Int)) := (h.cell _).trans (fcells_log hv)
theorem Full.exp (h : Full w g) {j : Nat} (hj : j < 510) : w.cell? ⟨g, 4 + j, none⟩ = some (.int .u8 (Fld.pw j : Int)) := by
  have := (Blk.cell h (4 + j)).trans (fcells_exp hj)
  rw [expAt_full] at this
  exact this

end

theorem fldTmul (g a b : Nat) (ha : a < 256) (hb : b < 256) (w : World) (h : Full w g) :
    Calls Try.prog 61 #[.pointer (some ⟨g, 4, none⟩), .int .u8 (a : Int), .int .u8 (b : Int)] w fun e w' => e = .returned (.int .u8 (Fld.gmul a b : Nat)) ∧ ∃ n, w' = w.drewN n := by
  by_cases h0 : a = 0
  · subst h0
    rw [Fld.zero_mul]
    go_enter Try.func61, Try.ntmps61
    go_wp2
    go_ret
    exact ⟨rfl, 0, rfl⟩
  · have h0' : ((a : Int) == 0) = false := by simp; omega
    by_cases h1 : b = 0
    · subst h1
      rw [Fld.mul_zero]
      clear h0
      go_enter Try.func61, Try.ntmps61
      go_wp2
      go_ret
      exact ⟨rfl, 0, rfl⟩
    · have h1' : ((b : Int) == 0) = false := by simp; omega
      have HM := Lib.hid (Fld.mul_eq ha hb h0 h1)
      have hla := Fld.log_lt a
      have hlb := Fld.log_lt b
      have hca := h.log ha
      have hcb := h.log hb
      have hce := h.exp (j := Fld.lg 255 a + Fld.lg 255 b) (by omega)
      clear h0 h1 h
      go_enter Try.func61, Try.ntmps61
      go_wp2
      go_region
      all_goals go_wp2
      all_goals go_ret
      exact ⟨ret_eq (nat_eq HM.out.symm), 1, rfl⟩
end Cib

end
/-! FldD -/
section
set_option linter.unusedVariables false
set_option linter.unusedSimpArgs false
set_option maxRecDepth 20000
namespace Cib
open Go Go.RowKit Go.Proofs

/-- What a quotient answers. -/
def divA (a b : Nat) : Nat × Int := if b = 0 then (0, 2) else (Fld.gdiv a b, 0)
/-- What a power answers. -/
def powA (a : Nat) (n : Int) : Nat × Int := if a = 0 then (if n < 0 then (0, 2) else if n = 0 then (1, 0) else (0, 0)) else (Fld.gpow a (n % 255).toNat, 0)
def pairV (r : Nat × Int) : Value := .tuple #[.int .u8 (r.1 : Int), .int .i64 r.2]
theorem fldDiv (g a b : Nat) (ha : a < 256) (hb : b < 256) (w : World) (h : Fld w g) :
    Calls Try.prog 31 #[.pointer (some ⟨g, 0, none⟩), .int .u8 (a : Int), .int .u8 (b : Int)] w fun e w' => e = .returned (pairV (divA a b)) ∧ ∃ n, w' = (w.setRow g (fcells 1 0 255)).drewN n := by
  have HR := Lib.hid (fldReady g w h)
  have HF : ∀ n, Hid (Full ((w.setRow g (fcells 1 0 255)).drewN n) g) := fun n => by
    rcases h with h | h <;> exact (h.row _).drewN n
  clear h
  generalize fcells 1 0 255 = C at HR HF ⊢
  by_cases h0 : b = 0
  · subst h0
    have HV : Hid (divA a 0 = (0, 2)) := if_pos rfl
    go_enter Try.func31, Try.ntmps31
    go_wp2_with (go_at_call 48; refine HR.out.mono ?_; rintro e w' ⟨rfl, n, rfl⟩)
    go_ret2
    exact ⟨by rw [HV.out]; rfl, n, rfl⟩
  · have h0' : ((b : Int) == 0) = false := by simp; omega
    have HV : Hid (divA a b = (Fld.gdiv a b, 0)) := if_neg h0
    by_cases h1 : a = 0
    · subst h1
      have HW : Hid (Fld.gdiv 0 b = 0) := if_pos rfl
      clear h0
      go_enter Try.func31, Try.ntmps31
      go_wp2_with (go_at_call 48; refine HR.out.mono ?_; rintro e w' ⟨rfl, n, rfl⟩)
      go_ret2
      exact ⟨by rw [HV.out, HW.out]; rfl, n, rfl⟩
    · have h1' : ((a : Int) == 0) = false := by simp; omega
      have HW : Hid (Fld.gdiv a b = Fld.pw (Fld.lg 255 a + 255 - Fld.lg 255 b)) := if_neg h1
      have hla := Fld.log_lt a
      have hlb := Fld.log_lt b
      clear h0 h1
      obtain ⟨j, hj, hj'⟩ : ∃ j : Nat, Hid (Fld.lg 255 a + 255 - Fld.lg 255 b = j) ∧ (Fld.lg 255 a : Int) - (Fld.lg 255 b : Int) + 255 = (j : Int) := ⟨_, rfl, by omega⟩
      have hjl : j < 510 := by have := hj.out; omega
      go_enter Try.func31, Try.ntmps31
      go_wp2_with (go_at_call 48; refine HR.out.mono ?_; rintro e w' ⟨rfl, n, rfl⟩)
      have hF := (HF n).out
      have hN : Hid (((w.setRow g C).drewN n).drew = (w.setRow g C).drewN (n + 1)) := rfl
      generalize (w.setRow g C).drewN n = wx at hF hN ⊢
      have hca := hF.log ha
      have hcb := hF.log hb
      have hce := hF.exp hjl
      go_region
      all_goals go_wp2
      all_goals go_ret2
      exact ⟨by rw [HV.out, HW.out, hj.out]; rfl, n + 1, hN.out⟩

theorem tmod_neg {n : Int} (h : n.tmod 255 < 0) : n.tmod 255 + 255 = ((n % 255).toNat : Int) := by
  have hp : ¬ 0 ≤ n := fun hn => by
    rw [Int.tmod_eq_emod_of_nonneg hn] at h
    omega
  have h2 : n.tmod 255 = -((-n) % 255) := by
    have h3 : (-(-n)).tmod 255 = -((-n).tmod 255) := Int.neg_tmod (-n) 255
    rw [Int.neg_neg, Int.tmod_eq_emod_of_nonneg (a := -n) (b := 255) (by omega)] at h3
    exact h3
  rw [h2] at h ⊢
  omega
theorem tmod_pos {n : Int} (h : ¬ n.tmod 255 < 0) : n.tmod 255 = ((n % 255).toNat : Int) := by
  by_cases hn : 0 ≤ n
  · rw [Int.tmod_eq_emod_of_nonneg hn]
    omega
  · have h2 : n.tmod 255 = -((-n) % 255) := by
      have h3 : (-(-n)).tmod 255 = -((-n).tmod 255) := Int.neg_tmod (-n) 255
      rw [Int.neg_neg, Int.tmod_eq_emod_of_nonneg (a := -n) (b := 255) (by omega)] at h3
      exact h3
    rw [h2] at h ⊢
    omega
end Cib

end
/-! FldA -/
section
set_option linter.unusedVariables false
set_option linter.unusedSimpArgs false
set_option maxRecDepth 20000
namespace Cib
open Go Go.RowKit Go.Proofs

/-- Only the field's memory may have changed; it has its tables. -/
structure Aft (g : Nat) (w w' : World) : Prop where
  full : Full w' g
  os : w'.os = w.os
  tape : w'.tape = w.tape
  output : w'.output = w.output
  size : w'.heap.size = w.heap.size
  oth : ∀ k, k ≠ g → w'.heap[k]? = w.heap[k]?
theorem Aft.of {w : World} {g : Nat} (h : Fld w g) (n : Nat) : Aft g w ((w.setRow g (fcells 1 0 255)).drewN n) where
  full := by rcases h with h | h <;> exact (h.row _).drewN n
  os := rfl
  tape := rfl
  output := rfl
  size := setRow_size _ _ _
  oth := fun k hk => setRow_other w g k _ hk
theorem Aft.below {w w' a : World} {g B : Nat} (h : Aft g w w') (hb : Below B a w) (hg : B ≤ g) : Below B a w' :=
  ⟨h.os.trans hb.os, h.tape.trans hb.tape, h.output.trans hb.output, by rw [h.size]; exact hb.size, fun k hk => (h.oth k (by omega)).trans (hb.block k hk)⟩
theorem Aft.blk {w w' : World} {g j : Nat} (h : Aft g w w') (hj : j ≠ g) {t : TypeId} {cs : Array Value} (hb : Blk w j t cs) : Blk w' j t cs := (h.oth j hj).trans hb
theorem Aft.cell {w w' : World} {g : Nat} (h : Aft g w w') {p : Addr} (hp : p.block ≠ g) : w'.cell? p = w.cell? p := by
  have := h.oth p.block hp
  simp only [World.cell?, this]
/-- A slice that lies apart from the field reads as it did. -/
theorem Aft.rd {w w' : World} {g B : Nat} (h : Aft g w w') {A : Option Addr} {vs : List Value} (hr : Rd w B A vs) (hg : B ≤ g) : Rd w' B A vs := hr.keep fun p hp => h.cell (by omega)

theorem fldDivA (g a b : Nat) (ha : a < 256) (hb : b < 256) (w : World) (h : Fld w g) :
    Calls Try.prog 31 #[.pointer (some ⟨g, 0, none⟩), .int .u8 (a : Int), .int .u8 (b : Int)] w fun e w' => e = .returned (pairV (divA a b)) ∧ Aft g w w' := by
  refine (fldDiv g a b ha hb w h).mono ?_
  rintro e w' ⟨rfl, n, rfl⟩
  exact ⟨rfl, Aft.of h n⟩
theorem fldNewA (w : World) : Calls Try.prog 6 #[] w fun e w' => e = .returned (.pointer (some ⟨w.heap.size, 0, none⟩)) ∧ Fld w' w.heap.size ∧ w'.heap.size = w.heap.size + 1 ∧ (∀ B a, B ≤ w.heap.size → Below B a w → Below B a w') := by
  refine (fldNew w).mono ?_
  rintro e w' ⟨rfl, rfl⟩
  exact ⟨rfl, Or.inl (Blk.new _ _ _), World.size_alloc _ _, fun B a hB hb => hb.alloc hB _⟩
end Cib

end
/-! Bytes -/
section
set_option linter.unusedVariables false
set_option linter.unusedSimpArgs false
set_option maxRecDepth 20000
namespace Cib
open Go Go.RowKit Go.Proofs
theorem infoByte : (Try.prog.info? 5).map (fun i => (i.zero, i.size, i.bytes)) = some (some (.int .u8 0), 1, 1) := by kernel_rfl
theorem sizeByte : (Try.prog.info? 5).map (·.size) = some 1 := by kernel_rfl
/-- append to a slice of bytes of the call's own. -/
theorem appB {ops : Array Oper} {rest : List Oper} {o : Oper} {a : Act} {Q : Exit → Act → World → Prop} (w : World) (hgd : o.guard = none) (s x : Operand)
    (ho : o.op = .call { callee := .builtin .append, args := #[s, x], argTypes := #[22, 22] })
    (base : Nat) (A0 : Option Addr) (n0 c0 : Nat) (xs : List Value) (hs : a.eval s = .slice A0 n0 c0) (hown : w.ownsRow base 5 1 (.slice A0 n0 c0) n0 xs)
    (B : Nat) (A : Option Addr) (m c : Nat) (news : List Value) (hx : a.eval x = .slice A m c) (hm : news.length = m) (hr : Rd w B A news) (h1 : ∀ u ∈ news, u.oneCell' = true)
    (hbytes : n0 + m ≤ 140737488355328) (hbase : base ≤ w.heap.size)
    (h : ∀ A' c' w', w'.ownsRow base 5 1 (.slice A' (n0 + m) c') (n0 + m) (xs ++ news) → w.grownBy w' (Value.slice A0 n0 c0).ownBlock → Below base w w' → wpList Try.prog ops Q rest (a.put o.dst (.slice A' (n0 + m) c')) w') :
    wpList Try.prog ops Q (o :: rest) a w := by
  obtain ⟨i0, hi, hz0, hz1, hz2⟩ := info_parts infoByte
  exact wpList_app w hgd s x 22 ho base 5 i0 _ 1 Try.underlying22 hi hz0 hz1 hz2 rfl A0 n0 c0 xs hs hown B A m c news hx hm hr h1 (by unfold maxLen; omega) (by omega) hbase h
/-- What a call answers that makes a slice of bytes: these bytes, in new memory. -/
def NewB (bs : List UInt8) (w : World) (e : Ending) (w' : World) : Prop :=
  ∃ A n c, e = .returned (.slice A n c) ∧ bs.length = n ∧ w'.ownsRow w.heap.size 5 1 (.slice A n c) n (bs.map bv) ∧ Below w.heap.size w w'
/-- make of so many bytes. -/
theorem makeB (n : Nat) (hn : n ≤ 140737488355328) (W : World) : (Instr.makeSlice 22 (.int .i64 (n : Int)) (.int .i64 (n : Int))).run Try.prog W = .ok (.slice (some ⟨W.heap.size, 0, none⟩) n n) (W.alloc (.cells (madeCells #[.int .u8 0] n) 5)) := by
  obtain ⟨i0, hi, hz0, hz1, hz2⟩ := info_parts infoByte
  have := run_make (P := Try.prog) W 22 5 i0 (.int .u8 0) Try.underlying22 hi hz0 .i64 .i64 (n : Int) (n : Int) (by omega) (by omega) (by rw [hz2]; omega) (by omega)
  rw [hz1, Nat.mul_one, Int.toNat_natCast] at this
  exact this
end Cib

end
/-! FldS -/
section
set_option linter.unusedVariables false
set_option linter.unusedSimpArgs false
set_option maxRecDepth 20000
namespace Cib
open Go Go.RowKit Go.Proofs

/-- One step of the field's own: its memory has the tables, there may be new memory, all else stays. -/
structure Stp (g : Nat) (w w' : World) : Prop where
  full : Full w' g
  os : w'.os = w.os
  tape : w'.tape = w.tape
  output : w'.output = w.output
  size : w.heap.size ≤ w'.heap.size
  oth : ∀ k, k < w.heap.size → k ≠ g → w'.heap[k]? = w.heap[k]?
theorem Fld.lt {w : World} {g : Nat} (h : Fld w g) : g < w.heap.size := by rcases h with h | h <;> exact Blk.lt h
theorem Full.lt {w : World} {g : Nat} (h : Full w g) : g < w.heap.size := Blk.lt h
theorem Full.below {w w' : World} {g B : Nat} (h : Full w g) (hb : Below B w w') (hg : g < B) : Full w' g := Blk.below h hb hg
theorem Aft.stp {w w1 w2 : World} {g : Nat} (h : Aft g w w1) (hb : Below w1.heap.size w1 w2) : Stp g w w2 where
  full := h.full.below hb h.full.lt
  os := hb.os.trans h.os
  tape := hb.tape.trans h.tape
  output := hb.output.trans h.output
  size := by rw [← h.size]; exact hb.size
  oth := fun k hk hg => (hb.block k (by rw [h.size]; exact hk)).trans (h.oth k hg)
theorem Stp.below {w w' a : World} {g B : Nat} (h : Stp g w w') (hb : Below B a w) (hg : B ≤ g) (hs : B ≤ w.heap.size) : Below B a w' :=
  ⟨h.os.trans hb.os, h.tape.trans hb.tape, h.output.trans hb.output, Nat.le_trans hb.size h.size, fun k hk => (h.oth k (by omega) (by omega)).trans (hb.block k hk)⟩
/-- Where the field has its tables already, every slice reads on. -/
theorem Aft.rdFull {w w' : World} {g B : Nat} (h : Aft g w w') (hf : Full w g) {A : Option Addr} {vs : List Value} (hr : Rd w B A vs) : Rd w' B A vs := hr.keep fun p hp => by
  by_cases hk : p.block = g
  · have h1 : w'.heap[p.block]? = w.heap[p.block]? := by
      rw [hk]
      exact Eq.trans (b := some _) h.full hf.symm
    simp only [World.cell?, h1]
  · exact h.cell hk
theorem fldReadyA (g : Nat) (w : World) (hb : Fld w g) :
    Calls Try.prog 48 #[.pointer (some ⟨g, 0, none⟩)] w fun e w' => e = .returned (.bool true) ∧ Aft g w w' := by
  refine (fldReady g w hb).mono ?_
  rintro e w' ⟨rfl, n, rfl⟩
  exact ⟨rfl, Aft.of hb n⟩
/-- A multiple of a row. -/
def scB (c : Nat) (row : List UInt8) : List UInt8 := row.map fun x => UInt8.ofNat (Fld.gmul c x.toNat)
theorem scB_length (c : Nat) (row : List UInt8) : (scB c row).length = row.length := by simp [scB]
theorem scB_toNat {c : Nat} (hc : c < 256) (x : UInt8) : (UInt8.ofNat (Fld.gmul c x.toNat)).toNat = Fld.gmul c x.toNat := by
  rw [UInt8.toNat_ofNat']
  exact Nat.mod_eq_of_lt (Fld.gmul_lt hc)
/-- New bytes, from a step of the field's. -/
def NewF (g : Nat) (bs : List UInt8) (w : World) (e : Ending) (w' : World) : Prop :=
  ∃ A n c, e = .returned (.slice A n c) ∧ bs.length = n ∧ w'.ownsRow w.heap.size 5 1 (.slice A n c) n (bs.map bv) ∧ Stp g w w'

theorem fldScale (g c : Nat) (hc : c < 256) (A : Option Addr) (cap : Nat) (row : List UInt8) (w : World) (h : Fld w g) (B : Nat) (hr : ∀ w1, Aft g w w1 → Rd w1 B A (row.map bv)) {len : Nat} (hn : row.length = len) (hB : B ≤ w.heap.size) (hl : len ≤ 1000000000) :
    Calls Try.prog 104 #[.pointer (some ⟨g, 0, none⟩), .int .u8 (c : Int), .slice A len cap] w (NewF g (scB c row) w) := by
  subst hn
  have hmk := makeB row.length (by omega)
  go_enter Try.func104, Try.ntmps104
  go_wp2_with (go_at_call 48; refine (fldReadyA g w h).mono ?_; rintro e w1 ⟨rfl, ha⟩)
  go_loopw [8, 9, 18] (fun _ _ i wr => ∃ k : Nat, k ≤ row.length ∧ i = .int .i64 k ∧ Below w1.heap.size w1 wr ∧ wr.ownsRow w1.heap.size 5 1 (.slice (some ⟨w1.heap.size, 0, none⟩) row.length row.length) row.length ((fillB (scB c row) k).map bv)) (fun _ _ i _ => row.length - (intOf i).toNat)
  case atStart =>
    refine ⟨0, Nat.zero_le _, rfl, (Below.refl _ _).alloc (Nat.le_refl _) _, ?_⟩
    rw [fillB_zero, List.map_replicate, scB_length]
    exact own_made w1 _ _ _ _ _ (Nat.le_refl _) (by omega) (by unfold maxLen; omega)
  case round =>
    obtain ⟨k, hk, rfl, hb, ho⟩ := hrel
    have hsz := Lib.hid ha.size
    by_cases hlt : k < row.length
    · obtain ⟨ad, rfl, hB2, hc2⟩ := (((hr w1 ha).more (by have := hsz.out; omega : B ≤ w1.heap.size)).below hb).byte hlt
      have hF := ha.full.below hb ha.full.lt
      have HT := Lib.hid (fldTmul g c row[k].toNat hc row[k].toNat_lt wr hF)
      obtain ⟨hc1, hf1, hset⟩ := own_byte ho (j := k) (by rw [fillB_length _ _ (by rw [scB_length]; exact hk), scB_length]; exact hlt)
      have HN := Lib.hid (scB_toNat hc row[k])
      have HS := Lib.hid (hset (UInt8.ofNat (Fld.gmul c row[k].toNat)))
      have HF := Lib.hid (fillB_set (scB c row) k (by rw [scB_length]; exact hlt))
      have HG : Hid ((scB c row)[k]'(by rw [scB_length]; exact hlt) = UInt8.ofNat (Fld.gmul c row[k].toNat)) := by show _ = _; simp [scB]
      clear hset hF
      go_wp2_with (go_at_call 61; refine HT.out.mono ?_; rintro e w' ⟨rfl, n, rfl⟩)
      refine ⟨⟨k + 1, by omega, by go_num, (below_drewN hb n).setCell (Nat.le_refl _) _, ?_⟩, by simp [intOf]; omega⟩
      have hs := HS.out n
      rw [HN.out, ← HG.out, HF.out] at hs
      exact hs
    · obtain rfl : k = row.length := by omega
      rw [← scB_length c row, fillB_all, scB_length] at ho
      go_wp2
      go_ret
      exact ⟨_, _, _, rfl, scB_length c row, by rw [← hsz.out]; exact ho, ha.stp hb⟩
end Cib

end
/-! FldE -/
section
set_option linter.unusedVariables false
set_option linter.unusedSimpArgs false
set_option maxRecDepth 20000
namespace Cib
open Go Go.RowKit Go.Proofs

theorem i64_xor_nat (a b : Nat) (ha : a < 512) (hb : b < 512) : bits .xor .i64 (a : Int) (b : Int) = ((a ^^^ b : Nat) : Int) := by
  have h1 : (BitVec.ofInt 64 (a : Int)).toNat = a := by
    rw [BitVec.ofInt_natCast, BitVec.toNat_ofNat]
    exact Nat.mod_eq_of_lt (by omega)
  have h2 : (BitVec.ofInt 64 (b : Int)).toNat = b := by
    rw [BitVec.ofInt_natCast, BitVec.toNat_ofNat]
    exact Nat.mod_eq_of_lt (by omega)
  have h3 : a ^^^ b < 512 := Nat.xor_lt_two_pow (n := 9) ha hb
  show IntKind.i64.wrap ((BitVec.ofInt 64 (a : Int) ^^^ BitVec.ofInt 64 (b : Int)).toNat : Int) = _
  rw [BitVec.toNat_xor, h1, h2, IntKind.wrap_i64]
  omega
theorem bit_int (b k : Nat) : (((b : Int) / 2 ^ k).tmod 2 == 1) = decide (b / 2 ^ k % 2 = 1) := by
  have h1 : (b : Int) / 2 ^ k = ((b / 2 ^ k : Nat) : Int) := by simp
  rw [h1]
  generalize b / 2 ^ k = m
  rw [Int.tmod_eq_emod_of_nonneg (Int.natCast_nonneg m)]
  by_cases h : m % 2 = 1
  · rw [decide_eq_true h]; simp; omega
  · rw [decide_eq_false h]; simp; omega
end Cib

end
/-! FldQ -/
section
set_option linter.unusedVariables false
set_option linter.unusedSimpArgs false
set_option maxRecDepth 20000
namespace Cib
open Go Go.RowKit Go.Proofs

/-- The sum of the first k products. -/
def dotN (a b : List UInt8) : Nat → Nat
  | 0 => 0
  | k + 1 => dotN a b k ^^^ Fld.gmul (a.getD k 0).toNat (b.getD k 0).toNat
theorem dotN_lt (a b : List UInt8) : ∀ k, dotN a b k < 256
  | 0 => by show (0 : Nat) < 256; decide
  | k + 1 => Fld.xor_lt (dotN_lt a b k) (Fld.gmul_lt (UInt8.toNat_lt _))
theorem dotN_next {a b : List UInt8} {k : Nat} (ha : k < a.length) (hb : k < b.length) : dotN a b (k + 1) = dotN a b k ^^^ Fld.gmul a[k].toNat b[k].toNat := by
  simp [dotN, ha, hb]
theorem Aft.drewN {w w1 : World} {g : Nat} (h : Aft g w w1) (n : Nat) : Aft g w (w1.drewN n) := ⟨h.full.drewN n, h.os, h.tape, h.output, h.size, h.oth⟩
end Cib

end
/-! FldG -/
section
set_option linter.unusedVariables false
set_option linter.unusedSimpArgs false
set_option maxRecDepth 20000
namespace Cib
open Go Go.RowKit Go.Proofs

/-- A row, and a multiple of another one added to it. -/
def foB (c : Nat) (row into : List UInt8) : List UInt8 := into.mapIdx fun i y => UInt8.ofNat (y.toNat ^^^ Fld.gmul c (row.getD i 0).toNat)
theorem foB_length (c : Nat) (row into : List UInt8) : (foB c row into).length = into.length := by simp [foB]
theorem foB_get {c : Nat} {row into : List UInt8} {i : Nat} (h : i < into.length) (h' : i < (foB c row into).length) : (foB c row into)[i] = UInt8.ofNat (into[i].toNat ^^^ Fld.gmul c (row.getD i 0).toNat) := by simp [foB]
theorem foB_nil (c : Nat) (into : List UInt8) : foB c [] into = into := by
  apply List.ext_getElem
  · exact foB_length _ _ _
  · intro i h1 h2
    rw [foB_get h2]
    simp [Fld.mul_zero]
theorem foB_toNat {c : Nat} (hc : c < 256) (y x : UInt8) : (UInt8.ofNat (y.toNat ^^^ Fld.gmul c x.toNat)).toNat = y.toNat ^^^ Fld.gmul c x.toNat := by
  rw [UInt8.toNat_ofNat']
  exact Nat.mod_eq_of_lt (Fld.xor_lt y.toNat_lt (Fld.gmul_lt hc))
theorem foB_next {c : Nat} {row into : List UInt8} {k : Nat} (hr : k < row.length) (hi : k < into.length) : (foB c (row.take k) into).set k (UInt8.ofNat (into[k].toNat ^^^ Fld.gmul c row[k].toNat)) = foB c (row.take (k + 1)) into := by
  apply List.ext_getElem
  · simp [foB_length]
  · intro i h1 h2
    have h3 : i < into.length := by rw [foB_length] at h2; exact h2
    rw [foB_get h3, List.getElem_set]
    split
    · rename_i he
      subst he
      rw [List.getD_eq_getElem?_getD, List.getElem?_take_of_lt (by omega)]
      simp [hr]
    · rename_i he
      rw [foB_get h3]
      simp only [List.getD_eq_getElem?_getD]
      by_cases hk : i < k
      · rw [List.getElem?_take_of_lt hk, List.getElem?_take_of_lt (by omega)]
      · rw [List.getElem?_take_eq_none (by omega), List.getElem?_take_eq_none (by omega)]
theorem foB_here {c : Nat} {row into : List UInt8} {k : Nat} (hi : k < into.length) (h : k < (foB c (row.take k) into).length) : (foB c (row.take k) into)[k] = into[k] := by
  rw [foB_get hi, List.getD_eq_getElem?_getD, List.getElem?_take_eq_none (Nat.le_refl _)]
  simp [Fld.mul_zero]
theorem foB_over {c : Nat} {row into : List UInt8} {k : Nat} (h : into.length ≤ k) : foB c (row.take k) into = foB c row into := by
  apply List.ext_getElem
  · simp [foB_length]
  · intro i h1 h2
    have h3 : i < into.length := by rw [foB_length] at h2; exact h2
    rw [foB_get h3, foB_get h3]
    simp only [List.getD_eq_getElem?_getD]
    rw [List.getElem?_take_of_lt (by omega)]
theorem foB_over' {c : Nat} {row into : List UInt8} {k : Nat} (h : into.length ≤ k ∨ row.length ≤ k) : foB c (row.take k) into = foB c row into := by
  rcases h with h | h
  · exact foB_over h
  · rw [List.take_of_length_le h]
set_option maxHeartbeats 1600000 in
theorem fldFold (g c : Nat) (hc : c < 256) (A1 : Option Addr) (c1 : Nat) (row : List UInt8) (A2 : Option Addr) (c2 : Nat) (into : List UInt8) (w : World) (h : Fld w g) (B1 B2 : Nat) (hra : ∀ w1, Aft g w w1 → Rd w1 B1 A1 (row.map bv)) (hrb : ∀ w1, Aft g w w1 → Rd w1 B2 A2 (into.map bv)) {n1 n2 : Nat} (hn1 : row.length = n1) (hn2 : into.length = n2) (hB1 : B1 ≤ w.heap.size) (hB2 : B2 ≤ w.heap.size) (hl1 : n1 ≤ 1000000000) (hl2 : n2 ≤ 1000000000) (hc1 : n1 ≤ c1) :
    Calls Try.prog 52 #[.pointer (some ⟨g, 0, none⟩), .int .u8 (c : Int), .slice A1 n1 c1, .slice A2 n2 c2] w (NewF g (foB c row into) w) := by
  subst hn1 hn2
  by_cases hd : into.length < row.length
  · have hd0 := hd
    have hsl := fun W : World => run_cut_to (P := Try.prog) 22 5 Try.underlying22 sizeByte A1 row.length c1 into.length .i64 (by omega) W
    go_enter Try.func52, Try.ntmps52
    go_wp2_with (first | (go_at_call 48; refine (fldReadyA g w h).mono ?_; rintro e w1 ⟨rfl, ha⟩) | (at_builtin; refine appB _ rfl (.const (.slice none 0 0)) (.tmp 16) rfl w1.heap.size none 0 0 [] rfl (World.ownsRow_nil _ _ _ _) B2 A2 into.length c2 (into.map bv) rfl (by simp) (hrb w1 ha) one_bytes (by omega) (Nat.le_refl _) ?_; intro A' c' w2 ho2 hg2 hb2; rw [Nat.zero_add] at ho2 ⊢; rw [List.nil_append] at ho2))
    clear hsl hg2
    go_loopw [11, 12, 27] (fun _ _ i wr => ∃ k : Nat, k ≤ into.length ∧ i = .int .i64 k ∧ Below w1.heap.size w1 wr ∧ wr.ownsRow w1.heap.size 5 1 (.slice A' into.length c') into.length ((foB c (row.take k) into).map bv)) (fun _ _ i _ => into.length - (intOf i).toNat)
    case atStart => exact ⟨0, Nat.zero_le _, rfl, hb2, by rw [List.take_zero, foB_nil]; exact ho2⟩
    case round =>
      clear ho2 hb2
      obtain ⟨k, hk, rfl, hb, ho⟩ := hrel
      have hsz := Lib.hid ha.size
      by_cases hlt : k < into.length
      · have hlr : k < row.length := by omega
        have hli : k < into.length := by omega
        obtain ⟨ad, rfl, hB, hc2⟩ := (((hra w1 ha).more (by have := hsz.out; omega : B1 ≤ w1.heap.size)).below hb).byte hlr
        obtain ⟨g', rfl, hg'⟩ := own_at ho (by omega)
        have hF := Lib.hid (ha.full.below hb ha.full.lt)
        have hlf : k < (foB c (row.take k) into).length := by rw [foB_length]; exact hli
        obtain ⟨hc1', hf1, hset⟩ := own_byte ho (j := k) hlf
        rw [foB_here hli hlf] at hc1'
        have hd := into[k].toNat_lt
        have hg := Fld.gmul_lt (b := row[k].toNat) hc
        obtain ⟨z, HZ, HX⟩ : ∃ z : UInt8, Hid (UInt8.ofNat (into[k].toNat ^^^ Fld.gmul c row[k].toNat) = z) ∧ bits .xor .u8 (into[k].toNat : Int) (Fld.gmul c row[k].toNat : Int) = (z.toNat : Int) :=
          ⟨UInt8.ofNat (into[k].toNat ^^^ Fld.gmul c row[k].toNat), by (show _ = _; rfl), by rw [u8_xor_nat _ _ hd hg, foB_toNat hc]⟩
        have HS := Lib.hid (hset z)
        clear hset
        have HN : Hid ((foB c (row.take k) into).set k z = foB c (row.take (k + 1)) into) := by (show _ = _; rw [← HZ.out]; exact foB_next hlr hli)
        go_wp2
        go_region_with (go_at_call 61; refine (fldTmul g c row[k].toNat hc row[k].toNat_lt _ (hF.out.drewN _)).mono ?_; rintro e w' ⟨rfl, n, rfl⟩)
        all_goals go_wp2
        all_goals (refine ⟨⟨k + 1, by omega, by go_num, (below_drewN hb _).setCell hg' _, ?_⟩, by simp [intOf]; omega⟩; have hs := HS.out (1 + n); rw [HN.out] at hs; exact hs)
      · obtain rfl : k = into.length := by omega
        rw [foB_over' (by omega)] at ho
        go_wp2
        go_ret
        exact ⟨_, _, _, rfl, foB_length _ _ _, by rw [← hsz.out]; exact ho, ha.stp hb⟩
  · have hd0 := hd
    have hsl := fun W : World => run_cut_to (P := Try.prog) 22 5 Try.underlying22 sizeByte A1 row.length c1 row.length .i64 (by omega) W
    go_enter Try.func52, Try.ntmps52
    go_wp2_with (first | (go_at_call 48; refine (fldReadyA g w h).mono ?_; rintro e w1 ⟨rfl, ha⟩) | (at_builtin; refine appB _ rfl (.const (.slice none 0 0)) (.tmp 16) rfl w1.heap.size none 0 0 [] rfl (World.ownsRow_nil _ _ _ _) B2 A2 into.length c2 (into.map bv) rfl (by simp) (hrb w1 ha) one_bytes (by omega) (Nat.le_refl _) ?_; intro A' c' w2 ho2 hg2 hb2; rw [Nat.zero_add] at ho2 ⊢; rw [List.nil_append] at ho2))
    clear hsl hg2
    go_loopw [11, 12, 27] (fun _ _ i wr => ∃ k : Nat, k ≤ row.length ∧ i = .int .i64 k ∧ Below w1.heap.size w1 wr ∧ wr.ownsRow w1.heap.size 5 1 (.slice A' into.length c') into.length ((foB c (row.take k) into).map bv)) (fun _ _ i _ => row.length - (intOf i).toNat)
    case atStart => exact ⟨0, Nat.zero_le _, rfl, hb2, by rw [List.take_zero, foB_nil]; exact ho2⟩
    case round =>
      clear ho2 hb2
      obtain ⟨k, hk, rfl, hb, ho⟩ := hrel
      have hsz := Lib.hid ha.size
      by_cases hlt : k < row.length
      · have hlr : k < row.length := by omega
        have hli : k < into.length := by omega
        obtain ⟨ad, rfl, hB, hc2⟩ := (((hra w1 ha).more (by have := hsz.out; omega : B1 ≤ w1.heap.size)).below hb).byte hlr
        obtain ⟨g', rfl, hg'⟩ := own_at ho (by omega)
        have hF := Lib.hid (ha.full.below hb ha.full.lt)
        have hlf : k < (foB c (row.take k) into).length := by rw [foB_length]; exact hli
        obtain ⟨hc1', hf1, hset⟩ := own_byte ho (j := k) hlf
        rw [foB_here hli hlf] at hc1'
        have hd := into[k].toNat_lt
        have hg := Fld.gmul_lt (b := row[k].toNat) hc
        obtain ⟨z, HZ, HX⟩ : ∃ z : UInt8, Hid (UInt8.ofNat (into[k].toNat ^^^ Fld.gmul c row[k].toNat) = z) ∧ bits .xor .u8 (into[k].toNat : Int) (Fld.gmul c row[k].toNat : Int) = (z.toNat : Int) :=
          ⟨UInt8.ofNat (into[k].toNat ^^^ Fld.gmul c row[k].toNat), by (show _ = _; rfl), by rw [u8_xor_nat _ _ hd hg, foB_toNat hc]⟩
        have HS := Lib.hid (hset z)
        clear hset
        have HN : Hid ((foB c (row.take k) into).set k z = foB c (row.take (k + 1)) into) := by (show _ = _; rw [← HZ.out]; exact foB_next hlr hli)
        go_wp2
        go_region_with (go_at_call 61; refine (fldTmul g c row[k].toNat hc row[k].toNat_lt _ (hF.out.drewN _)).mono ?_; rintro e w' ⟨rfl, n, rfl⟩)
        all_goals go_wp2
        all_goals (refine ⟨⟨k + 1, by omega, by go_num, (below_drewN hb _).setCell hg' _, ?_⟩, by simp [intOf]; omega⟩; have hs := HS.out (1 + n); rw [HN.out] at hs; exact hs)
      · obtain rfl : k = row.length := by omega
        rw [foB_over' (by omega)] at ho
        go_wp2
        go_ret
        exact ⟨_, _, _, rfl, foB_length _ _ _, by rw [← hsz.out]; exact ho, ha.stp hb⟩
end Cib

end
/-! FldK -/
section
set_option linter.unusedVariables false
set_option linter.unusedSimpArgs false
set_option maxRecDepth 20000
namespace Cib
open Go Go.RowKit Go.Proofs

theorem Stp.bel {w w' : World} {g : Nat} (h : Stp g w w') (hf : Full w g) : Below w.heap.size w w' :=
  ⟨h.os, h.tape, h.output, h.size, fun k hk => by
    by_cases hkg : k = g
    · subst hkg
      exact Eq.trans (b := some _) h.full hf.symm
    · exact h.oth k hk hkg⟩
theorem Aft.bel {w w' : World} {g : Nat} (h : Aft g w w') (hf : Full w g) : Below w.heap.size w w' :=
  ⟨h.os, h.tape, h.output, by rw [h.size]; exact Nat.le_refl _, fun k hk => by
    by_cases hkg : k = g
    · subst hkg
      exact Eq.trans (b := some _) h.full hf.symm
    · exact h.oth k hkg⟩
theorem Full.on {w w' : World} {g : Nat} (h : Full w g) (hb : Below w.heap.size w w') : Full w' g := h.below hb h.lt
theorem NewF.bel {g : Nat} {bs : List UInt8} {w : World} {e : Ending} {w' : World} (h : NewF g bs w e w') (hf : Full w g) : NewB bs w e w' := by
  obtain ⟨A, n, c, h1, h2, h3, h4⟩ := h
  exact ⟨A, n, c, h1, h2, h3, h4.bel hf⟩
theorem fldDivF (g a b : Nat) (ha : a < 256) (hb : b < 256) (w : World) (h : Full w g) :
    Calls Try.prog 31 #[.pointer (some ⟨g, 0, none⟩), .int .u8 (a : Int), .int .u8 (b : Int)] w fun e w' => e = .returned (pairV (divA a b)) ∧ Below w.heap.size w w' :=
  (fldDivA g a b ha hb w h.fld).mono fun _ _ ⟨he, ha⟩ => ⟨he, ha.bel h⟩
theorem fldScaleF (g c : Nat) (hc : c < 256) (A : Option Addr) (cap : Nat) (row : List UInt8) (w : World) (h : Full w g) (B : Nat) (hr : Rd w B A (row.map bv)) {len : Nat} (hn : row.length = len) (hB : B ≤ w.heap.size) (hl : len ≤ 1000000000) :
    Calls Try.prog 104 #[.pointer (some ⟨g, 0, none⟩), .int .u8 (c : Int), .slice A len cap] w (NewB (scB c row) w) :=
  (fldScale g c hc A cap row w h.fld B (fun _ ha => ha.rdFull h hr) hn hB hl).mono fun _ _ hx => hx.bel h
theorem fldFoldF (g c : Nat) (hc : c < 256) (A1 : Option Addr) (c1 : Nat) (row : List UInt8) (A2 : Option Addr) (c2 : Nat) (into : List UInt8) (w : World) (h : Full w g) (B1 B2 : Nat) (hra : Rd w B1 A1 (row.map bv)) (hrb : Rd w B2 A2 (into.map bv)) {n1 n2 : Nat} (hn1 : row.length = n1) (hn2 : into.length = n2) (hB1 : B1 ≤ w.heap.size) (hB2 : B2 ≤ w.heap.size) (hl1 : n1 ≤ 1000000000) (hl2 : n2 ≤ 1000000000) (hc1 : n1 ≤ c1) :
    Calls Try.prog 52 #[.pointer (some ⟨g, 0, none⟩), .int .u8 (c : Int), .slice A1 n1 c1, .slice A2 n2 c2] w (NewB (foB c row into) w) :=
  (fldFold g c hc A1 c1 row A2 c2 into w h.fld B1 B2 (fun _ ha => ha.rdFull h hra) (fun _ ha => ha.rdFull h hrb) hn1 hn2 hB1 hB2 hl1 hl2 hc1).mono fun _ _ hx => hx.bel h
/-! What becomes of sums of multiples. -/
theorem scB_one (row : List UInt8) : scB 1 row = row := by
  unfold scB
  apply List.ext_getElem
  · simp
  · intro i h1 h2
    rw [List.getElem_map, Fld.one_mul_all _ (UInt8.toNat_lt _), UInt8.ofNat_toNat]
theorem scB_get (c : Nat) (row : List UInt8) {i : Nat} (h : i < row.length) {h' : i < (scB c row).length} : (scB c row)[i] = UInt8.ofNat (Fld.gmul c row[i].toNat) := by simp [scB]
theorem foB_scB {a b : Nat} (ha : a < 256) (hb : b < 256) (row : List UInt8) : foB b row (scB a row) = scB (a ^^^ b) row := by
  apply List.ext_getElem
  · rw [foB_length, scB_length, scB_length]
  · intro i h1 h2
    have h3 : i < row.length := by rw [scB_length] at h2; exact h2
    rw [foB_get (by rw [scB_length]; exact h3), List.getD_eq_getElem?_getD, List.getElem?_eq_getElem h3, Option.getD_some]
    rw [scB_get _ _ h3, scB_get _ _ h3, UInt8.toNat_ofNat', Nat.mod_eq_of_lt (by have := Fld.gmul_lt (b := row[i].toNat) ha; omega), Fld.xor_mul ha hb (UInt8.toNat_lt _)]
theorem scB_zero (row : List UInt8) : scB 0 row = List.replicate row.length 0 := by
  apply List.ext_getElem
  · simp [scB]
  · intro i h1 h2
    simp [scB, Fld.zero_mul]
end Cib

end
