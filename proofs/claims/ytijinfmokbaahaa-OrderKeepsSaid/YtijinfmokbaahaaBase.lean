/- Words for memory and numbers that every walk of this seat uses: plain definitions and lemmas, nothing about the program. -/
import Derived.Test.YtijinfmokbaahaaRows
import Derived.WalkKit
import Derived.WalkSpells
import Derived.WalkLawsBesides
import Derived.Laws.BitsAllLaws
import Derived.Lib.Hide
import Derived.Deep.Onto
import Derived.Deep.DeepCutAuto
import Derived.Deep.LoopGhost
import Derived.BigRegion
import Derived.Maps.AppendAt
import Derived.Lib.SmallJoins
import Derived.Deep.OwnRows
import Derived.OpenShut
import Derived.Lib.SlBytesConst
import Derived.Deep.AppendLies
import Derived.Deep.Draws
import Derived.Deep.QuietTactic
import Derived.BigQuiet
set_option linter.unusedVariables false
set_option linter.unusedSimpArgs false
namespace Cib
open Go Go.RowKit

/-- A byte as a cell. -/
def bv (b : UInt8) : Value := .int .u8 (b.toNat : Int)

theorem addr_add_block (a : Addr) (n : Nat) : (a.add n).block = a.block := by
  unfold Addr.add
  split <;> rfl
theorem addr_add_add (a : Addr) (i j : Nat) : (a.add i).add j = a.add (i + j) := by
  unfold Addr.add
  by_cases hi : i = 0 <;> by_cases hj : j = 0 <;> simp [hi, hj, Nat.add_assoc]
theorem addr_add_zero (a : Addr) : a.add 0 = a := by
  unfold Addr.add
  simp

/-- The slice that begins at A holds the values vs, one cell each, in a block below B; of an empty one nothing is asked. -/
def Rd (w : World) (B : Nat) (A : Option Addr) (vs : List Value) : Prop :=
  vs ≠ [] → ∃ ad, A = some ad ∧ ad.block < B ∧ ∀ j (h : j < vs.length), w.cell? (ad.add j) = some vs[j]

section
variable {w w' : World} {B B' : Nat} {A : Option Addr} {vs : List Value}
theorem Rd.nil (w : World) (B : Nat) (A : Option Addr) : Rd w B A [] := fun h => absurd rfl h
theorem Rd.keep (h : Rd w B A vs) (hk : ∀ p : Addr, p.block < B → w'.cell? p = w.cell? p) : Rd w' B A vs := fun hn => by
  obtain ⟨ad, e, hb, hc⟩ := h hn
  exact ⟨ad, e, hb, fun j hj => (hk _ (by rw [addr_add_block]; exact hb)).trans (hc j hj)⟩
theorem Rd.more (h : Rd w B A vs) (hB : B ≤ B') : Rd w B' A vs := fun hn => by
  obtain ⟨ad, e, hb, hc⟩ := h hn
  exact ⟨ad, e, Nat.lt_of_lt_of_le hb hB, hc⟩
theorem Rd.below (h : Rd w B A vs) (hb : Below B w w') : Rd w' B A vs := h.keep fun _ hp => hb.cell hp
theorem Rd.alloc (h : Rd w B A vs) (hB : B ≤ w.heap.size) (o : Obj) : Rd (w.alloc o) B A vs := h.keep fun p hp => World.cell?_alloc_lt w o p (by omega)
theorem Rd.setCell (h : Rd w B A vs) {p : Addr} (hB : B ≤ p.block) (u : Value) : Rd (w.setCell p u) B A vs :=
  h.keep fun q hq => World.cell?_setCell_other w p q u (fun e => by subst e; omega)
theorem Rd.grown (h : Rd w B A vs) {row : Option Nat} (hg : w.grownBy w' row) (hB : B ≤ w.heap.size) (hr : ∀ g, row = some g → B ≤ g) : Rd w' B A vs :=
  h.keep fun p hp => World.cell?_of_block (hg.block p.block (by omega) (fun e => by have := hr _ e.symm; omega))
theorem Rd.of_own {base : Nat} {e : TypeId} {n c : Nat} (h : w.ownsRow base e 1 (.slice A n c) n vs) : Rd w w.heap.size A vs := fun hn => by
  have hl : vs.length = n := by simpa using h.1
  have hp : 0 < n := by
    rcases Nat.eq_zero_or_pos n with h0 | h0
    · exact absurd (List.eq_nil_of_length_eq_zero (by omega)) hn
    · exact h0
  obtain ⟨g, cap, hv, _, hlt⟩ := h.form hp
  have hA : A = some ⟨g, 0, none⟩ := by injection hv
  subst hA
  exact ⟨_, rfl, hlt, fun j hj => h.cells (g := g) rfl j _ (List.getElem?_eq_getElem hj)⟩
theorem Rd.new (w : World) (C : Array Value) (t : TypeId) (fr : Nat × Nat) {vs : List Value} (h : C.toList = vs) : Rd (w.alloc (.cells C t fr)) (w.heap.size + 1) (some ⟨w.heap.size, 0, none⟩) vs := fun _ => by
  subst h
  refine ⟨_, rfl, Nat.lt_succ_self _, fun j hj => ?_⟩
  have e : (⟨w.heap.size, 0, none⟩ : Addr).add j = ⟨w.heap.size, j, none⟩ := by
    unfold Addr.add
    split <;> simp_all
  rw [e, World.cell?_alloc_mark]
  simp at hj
  simp [hj]
/-- The cell of place k of a slice of bytes. -/
theorem Rd.byte {bs : List UInt8} (h : Rd w B A (bs.map bv)) {k : Nat} (hk : k < bs.length) :
    ∃ ad, A = some ad ∧ ad.block < B ∧ w.cell? (ad.add k) = some (.int .u8 ((bs[k]).toNat : Int)) := by
  obtain ⟨ad, e, hb, hc⟩ := h (by intro e; simp at e; subst e; simp at hk)
  have := hc k (by simpa using hk)
  rw [List.getElem_map] at this
  exact ⟨ad, e, hb, this⟩
end
/-- Where a slice begins that is cut at place k of one of capacity c. -/
def cut (A : Option Addr) (c k : Nat) : Option Addr := if c = k then A else A.map (·.add k)
theorem Rd.cut {w : World} {B : Nat} {A : Option Addr} {vs : List Value} (h : Rd w B A vs) {c k : Nat} (hk : k ≤ vs.length) (hc : vs.length ≤ c) : Rd w B (cut A c k) (vs.drop k) := fun hn => by
  have hlt : k < vs.length := by
    rcases Nat.lt_or_ge k vs.length with h1 | h1
    · exact h1
    · exact absurd (List.drop_eq_nil_of_le h1) hn
  obtain ⟨ad, rfl, hb, hcell⟩ := h (by rintro rfl; simp at hlt)
  unfold Cib.cut
  rw [if_neg (by omega)]
  refine ⟨ad.add k, rfl, by rw [addr_add_block]; exact hb, fun j hj => ?_⟩
  rw [addr_add_add, List.getElem_drop]
  rw [List.length_drop] at hj
  exact hcell (k + j) (by omega)
theorem Rd.take {w : World} {B : Nat} {A : Option Addr} {vs : List Value} (h : Rd w B A vs) (k : Nat) : Rd w B A (vs.take k) := fun hn => by
  obtain ⟨ad, rfl, hb, hcell⟩ := h (by rintro rfl; simp at hn)
  refine ⟨ad, rfl, hb, fun j hj => ?_⟩
  rw [List.length_take] at hj
  rw [List.getElem_take]
  exact hcell j (by omega)
section
variable {P : Program}
theorem run_cut_from (t e : TypeId) (ht : P.underlying t = some (.slice e)) (hs : (P.info? e).map (·.size) = some 1) (A : Option Addr) (n c k : Nat) (kd : IntKind) (hk : k ≤ n) (w : World) :
    (Instr.slice t (.slice A n c) (some (.int kd (k : Int))) none none).run P w = .ok (.slice (cut A c k) (n - k) (c - k)) w := by
  have he : P.elem t = e := by simp [Program.elem, ht]
  obtain ⟨i, hi, hsz⟩ := Option.map_eq_some_iff.1 hs
  have ht' : P.underlying t = some (.slice (P.elem t)) := by rw [he]; exact ht
  rw [run_slice_l w t A n c ht' kd (k : Int) (by omega) (by omega), he]
  simp [Go.sizeOf, typeInfo, hi, hsz, sliced, Cib.cut]
theorem run_cut_to (t e : TypeId) (ht : P.underlying t = some (.slice e)) (hs : (P.info? e).map (·.size) = some 1) (A : Option Addr) (n c l : Nat) (kd' : IntKind) (hl : l ≤ c) (w : World) :
    (Instr.slice t (.slice A n c) none (some (.int kd' (l : Int))) none).run P w = .ok (.slice A l c) w := by
  have he : P.elem t = e := by simp [Program.elem, ht]
  obtain ⟨i, hi, hsz⟩ := Option.map_eq_some_iff.1 hs
  have ht' : P.underlying t = some (.slice (P.elem t)) := by rw [he]; exact ht
  have ha : A.map (fun x => x.add 0) = A := by cases A <;> simp [addr_add_zero]
  rw [run_slice_h w t A n c ht' kd' (l : Int) (by omega) (by omega), he]
  simp [Go.sizeOf, typeInfo, hi, hsz, sliced, ha]
theorem run_cut_both (t e : TypeId) (ht : P.underlying t = some (.slice e)) (hs : (P.info? e).map (·.size) = some 1) (A : Option Addr) (n c k l : Nat) (kd kd' : IntKind) (hk : k ≤ l) (hl : l ≤ c) (w : World) :
    (Instr.slice t (.slice A n c) (some (.int kd (k : Int))) (some (.int kd' (l : Int))) none).run P w = .ok (.slice (cut A c k) (l - k) (c - k)) w := by
  have he : P.elem t = e := by simp [Program.elem, ht]
  obtain ⟨i, hi, hsz⟩ := Option.map_eq_some_iff.1 hs
  have ht' : P.underlying t = some (.slice (P.elem t)) := by rw [he]; exact ht
  rw [run_slice_lh w t A n c ht' kd kd' (k : Int) (l : Int) (by omega) (by omega) (by omega), he]
  simp [Go.sizeOf, typeInfo, hi, hsz, sliced, Cib.cut]
theorem run_cut_three (t e : TypeId) (ht : P.underlying t = some (.slice e)) (hs : (P.info? e).map (·.size) = some 1) (A : Option Addr) (n c k l m : Nat) (kd kd' kd'' : IntKind) (hk : k ≤ l) (hl : l ≤ m) (hm : m ≤ c) (w : World) :
    (Instr.slice t (.slice A n c) (some (.int kd (k : Int))) (some (.int kd' (l : Int))) (some (.int kd'' (m : Int)))).run P w = .ok (.slice (cut A m k) (l - k) (m - k)) w := by
  have he : P.elem t = e := by simp [Program.elem, ht]
  obtain ⟨i, hi, hsz⟩ := Option.map_eq_some_iff.1 hs
  have ht' : P.underlying t = some (.slice (P.elem t)) := by rw [he]; exact ht
  rw [run_slice_lhm w t A n c ht' kd kd' kd'' (k : Int) (l : Int) (m : Int) (by omega) (by omega) (by omega) (by omega), he]
  simp [Go.sizeOf, typeInfo, hi, hsz, sliced, Cib.cut]
end
/-- What string(b) answers. -/
theorem run_str {P : Program} (src dst e : TypeId) (hs : P.underlying src = some (.slice e)) (he : P.underlying e = some (.int .u8)) (hd : P.underlying dst = some .string) {w : World} {B : Nat} {A : Option Addr} {bs : List UInt8} (h : Rd w B A (bs.map bv)) {n : Nat} (hn : bs.length = n) (c : Nat) :
    (convert src dst (.slice A n c)).run P w = .ok (.string ⟨bs.toArray⟩) w := by
  subst hn
  rcases A with _ | ad
  · have hb : bs = [] := by
      rcases bs with _ | ⟨x, xs⟩
      · rfl
      · obtain ⟨ad, h, _⟩ := h (by simp)
        cases h
    subst hb
    rw [run_convert_bytes_string w src dst e none _ _ hs he hd]
    unfold Conv.bytesToString
    rfl
  · refine run_convert_bytes_back w src dst e ad c bs hs he hd fun j hj => ?_
    obtain ⟨ad', he', _, hc⟩ := h.byte hj
    injection he' with he'
    subst he'
    exact hc
/-- What []byte(s) answers: the text's bytes in new memory. -/
theorem run_bytes {P : Program} (w : World) (src dst e : TypeId) (s : ByteArray) (hs : P.underlying src = some .string) (hd : P.underlying dst = some (.slice e)) (he : P.underlying e = some (.int .u8)) :
    ∃ c w', (convert src dst (.string s)).run P w = .ok (.slice (some ⟨w.heap.size, 0, none⟩) s.size c) w' ∧ Rd w' (w.heap.size + 1) (some ⟨w.heap.size, 0, none⟩) (s.data.toList.map bv) ∧ Below w.heap.size w w' ∧ w.heap.size < w'.heap.size := by
  refine ⟨_, _, run_bytes_of_string w src dst e s hs hd he, fun hn => ?_, (Below.refl _ _).drew.alloc (Nat.le_refl _) _, by simp⟩
  refine ⟨_, rfl, Nat.lt_succ_self _, fun j hj => ?_⟩
  have e0 : (⟨w.heap.size, 0, none⟩ : Addr).add j = ⟨w.heap.size, j, none⟩ := by
    unfold Addr.add
    split <;> simp_all
  rw [e0]
  refine (World.cell?_alloc_mark w.drew _ _ _ j).trans ?_
  simp at hj
  simp [bytesRow, bv, Array.getElem?_append, hj]
/-- Block g holds just the cells cs of type t, none of them frozen. -/
def Blk (w : World) (g : Nat) (t : TypeId) (cs : Array Value) : Prop := w.heap[g]? = some (.cells cs t (0, 0))
section
variable {w w' : World} {g : Nat} {t : TypeId} {cs : Array Value}
theorem Blk.lt (h : Blk w g t cs) : g < w.heap.size := by
  rcases Nat.lt_or_ge g w.heap.size with hlt | hge
  · exact hlt
  · unfold Blk at h
    rw [Array.getElem?_eq_none hge] at h
    cases h
theorem Blk.cell (h : Blk w g t cs) (i : Nat) : w.cell? ⟨g, i, none⟩ = cs[i]? := cell_of_row w g i cs t (0, 0) h
theorem Blk.frozen (h : Blk w g t cs) (i : Nat) : w.frozen? ⟨g, i, none⟩ = false := frozen_of_row w g i cs t h
theorem Blk.new (w : World) (t : TypeId) (cs : Array Value) : Blk (w.alloc (.cells cs t)) w.heap.size t cs := heap_alloc_new w _
theorem Blk.alloc (h : Blk w g t cs) (o : Obj) : Blk (w.alloc o) g t cs := (Below.heap_alloc w o g h.lt).trans h
theorem Blk.drewN (h : Blk w g t cs) (n : Nat) : Blk (w.drewN n) g t cs := h
theorem Blk.set (h : Blk w g t cs) (i : Nat) (u : Value) : Blk (w.setCell ⟨g, i, none⟩ u) g t (cs.setIfInBounds i u) := heap_setCell_same w g i cs t u h
theorem Blk.far (h : Blk w g t cs) {p : Addr} (hp : g ≠ p.block) (u : Value) : Blk (w.setCell p u) g t cs := (heap_setCell_other w p g u hp).trans h
theorem Blk.row (h : Blk w g t cs) (ds : Array Value) : Blk (w.setRow g ds) g t ds := setRow_heap w g cs ds t (0, 0) h
theorem Blk.rowFar (h : Blk w g t cs) {g' : Nat} (hg : g ≠ g') (ds : Array Value) : Blk (w.setRow g' ds) g t cs := (setRow_other w g' g ds hg).trans h
theorem Blk.below {B : Nat} (h : Blk w g t cs) (hb : Below B w w') (hg : g < B) : Blk w' g t cs := (hb.block g hg).trans h
end
theorem below_drewN {B : Nat} {a w : World} (h : Below B a w) (n : Nat) : Below B a (w.drewN n) := ⟨h.os, h.tape, h.output, h.size, h.block⟩
/-- One more step that keeps all that there was. -/
theorem _root_.Go.RowKit.Below.via {a b c : World} (h : Below a.heap.size a b) (k : Below b.heap.size b c) : Below a.heap.size a c := h.trans (k.mono h.size)
theorem below_setRow {B : Nat} {a w : World} (h : Below B a w) {g : Nat} (hg : B ≤ g) (cs : Array Value) : Below B a (w.setRow g cs) :=
  ⟨h.os, h.tape, h.output, by rw [size_setRow]; exact h.size, fun k hk => (setRow_other w g k cs (by omega)).trans (h.block k hk)⟩
theorem i64_and_one (m : Nat) (h : m ≤ 9223372036854775807) : bits .and .i64 (m : Int) 1 = ((m % 2 : Nat) : Int) := by
  have hx : m &&& 1 = m % 2 := by simp
  have h1 : (BitVec.ofInt 64 (m : Int)).toNat = m := by
    rw [BitVec.ofInt_natCast, BitVec.toNat_ofNat]
    exact Nat.mod_eq_of_lt (by omega)
  have h2 : (BitVec.ofInt 64 1).toNat = 1 := by decide
  show IntKind.i64.wrap ((BitVec.ofInt 64 (m : Int) &&& BitVec.ofInt 64 1).toNat : Int) = _
  rw [BitVec.toNat_and, h1, h2, hx, IntKind.wrap_i64]
  omega
/-- What the shell tells of a slice of bytes that came in, as bytes. -/
theorem row_bytes {w : World} {a : Option Addr} {len cap : Nat} {zs : List Int}
    (h : (a = none ∧ len = 0 ∧ cap = 0 ∧ zs = []) ∨ ∃ x, a = some x ∧ len ≤ cap ∧ cap ≤ maxLen ∧ zs.length = cap ∧ (∀ i, i < zs.length → w.cell? (x.add i) = some (.int .u8 (zs.getD i 0))) ∧ ∀ n ∈ zs, (Lit.int .u8 n).wf = true) :
    ∃ bs : List UInt8, bs.length = len ∧ len ≤ cap ∧ cap ≤ maxLen ∧ Rd w w.heap.size a (bs.map bv) := by
  rcases h with ⟨rfl, rfl, rfl, rfl⟩ | ⟨x, rfl, hl, hm, hz, hc, hw⟩
  · exact ⟨[], rfl, Nat.le_refl _, Nat.zero_le _, Rd.nil _ _ _⟩
  · refine ⟨(zs.take len).map fun n => UInt8.ofNat n.toNat, by simp; omega, hl, hm, fun hn => ⟨x, rfl, ?_, fun j hj => ?_⟩⟩
    · have hp : 0 < zs.length := by
        rcases Nat.eq_zero_or_pos zs.length with h0 | h0
        · have : zs = [] := List.eq_nil_of_length_eq_zero h0
          subst this
          simp at hn
        · exact h0
      have := block_lt_of_cell (hc 0 hp)
      rwa [addr_add_block] at this
    · simp at hj
      rw [hc j (by omega)]
      have hg : zs.getD j 0 = zs[j]'(by omega) := by simp [List.getD, List.getElem?_eq_getElem (show j < zs.length by omega)]
      have hb := bounds_u8 (hw _ (List.getElem_mem (show j < zs.length by omega)))
      simp only [List.getElem_map, List.getElem_take, bv, hg]
      rw [UInt8.toNat_ofNat_of_lt' (by have := hb.1; have := hb.2; show _ < 256; omega)]
      rw [Int.toNat_of_nonneg hb.1]
theorem wf_bv32 {n : Int} (h : (Lit.int .u32 n).wf = true) : ∃ c : BitVec 32, n = (c.toNat : Int) := by
  have hb := bounds_u32 h
  refine ⟨BitVec.ofNat 32 n.toNat, ?_⟩
  rw [BitVec.toNat_ofNat, Nat.mod_eq_of_lt (by omega)]
  omega
section
variable {P : Program} (w : World)
theorem run_app_nil (base : Nat) (t ty e : TypeId) (i : TypeInfo) (ht : P.underlying t = some (.slice e)) (hi : P.info? e = some i)
    (v : Value) (n : Nat) (xs : List Value) (hown : w.ownsRow base e 1 v n xs) (c : Nat) : (Builtin.append_ #[t, t] ty #[v, .slice none 0 c]).run P w = .ok v w := by
  rcases hown.2 with ⟨rfl, rfl⟩ | ⟨g, cap, cur, rfl, _, _, hnc, _⟩
  · simp [Builtin.append_, run_underlying ht, Go.sizeOf, typeInfo, hi, Builtin.lenOf, Builtin.firstCells]
  · simp [Builtin.append_, run_underlying ht, Go.sizeOf, typeInfo, hi, Builtin.lenOf, Builtin.firstCells, hnc, storeCells]
/-- append of what a slice holds, one cell an element, to a slice of the call's own. -/
theorem run_app (base : Nat) (t ty e : TypeId) (i : TypeInfo) (z : Value) (bytes : Nat) (ht : P.underlying t = some (.slice e)) (hi : P.info? e = some i) (hz : i.zero = some z)
    (hsize : i.size = 1) (hby : i.bytes = bytes) (hzs : z.cells.size = 1)
    (A0 : Option Addr) (n0 c0 : Nat) (xs : List Value) (hown : w.ownsRow base e 1 (.slice A0 n0 c0) n0 xs)
    (B : Nat) (A : Option Addr) (m c : Nat) (news : List Value) (hm : news.length = m) (hr : Rd w B A news) (h1 : ∀ u ∈ news, u.oneCell' = true)
    (h63 : n0 + m ≤ maxLen) (hbytes : (n0 + m) * bytes ≤ 140737488355328) (hbase : base ≤ w.heap.size) :
    ∃ A' c' w', (Builtin.append_ #[t, t] ty #[.slice A0 n0 c0, .slice A m c]).run P w = .ok (.slice A' (n0 + m) c') w' ∧ w'.ownsRow base e 1 (.slice A' (n0 + m) c') (n0 + m) (xs ++ news) ∧
      w.grownBy w' (Value.slice A0 n0 c0).ownBlock ∧ Below base w w' := by
  have hform : ∀ (v' : Value) (w' : World), w'.ownsRow base e 1 v' (n0 + m) (xs ++ news) → ∃ A' c', v' = .slice A' (n0 + m) c' := by
    intro v' w' h
    rcases Joins.ownsRow_forms h with ⟨rfl, h0⟩ | ⟨g, cap, rfl⟩
    · exact ⟨none, 0, by rw [h0]⟩
    · exact ⟨_, _, rfl⟩
  have hbel : ∀ w' : World, w.grownBy w' (Value.slice A0 n0 c0).ownBlock → Below base w w' := fun w' hg =>
    (Below.refl base w).grown hg hbase fun k hk => (hown.lt k hk).1
  rcases A with _ | ad
  · have hn : news = [] := by
      rcases news with _ | ⟨x, xs⟩
      · rfl
      · obtain ⟨ad, h, _⟩ := hr (by simp)
        cases h
    subst hn
    have hm0 : m = 0 := by simpa using hm.symm
    subst hm0
    refine ⟨A0, c0, w, run_app_nil w base t ty e i ht hi _ n0 xs hown c, by simpa using hown, World.grownBy.refl w _, Below.refl _ _⟩
  · have hcells : ∀ j u, news[j]? = some u → w.cell? (ad.add j) = some u := by
      intro j u hu
      obtain ⟨hj, he⟩ := List.getElem?_eq_some_iff.1 hu
      obtain ⟨ad', h, _, hc⟩ := hr (by rintro rfl; simp at hj)
      injection h with h
      subst h
      rw [hc j hj, he]
    obtain ⟨v', w', hrun, h2, h3, _, _⟩ := run_append_own_at (P := P) w base t ty e i z 1 bytes ht hi hz hsize hby hzs (by decide) _ n0 xs hown ad m c news (by omega) hcells h1 h63 hbytes hbase
    obtain ⟨A', c', rfl⟩ := hform v' w' h2
    exact ⟨A', c', w', hrun, h2, h3, hbel w' h3⟩
theorem wpList_app {ops : Array Oper} {rest : List Oper} {o : Oper} {a : Act} {Q : Exit → Act → World → Prop} (hgd : o.guard = none) (s x : Operand) (t : TypeId)
    (ho : o.op = .call { callee := .builtin .append, args := #[s, x], argTypes := #[t, t] })
    (base : Nat) (e : TypeId) (i : TypeInfo) (z : Value) (bytes : Nat) (ht : P.underlying t = some (.slice e)) (hi : P.info? e = some i) (hz : i.zero = some z)
    (hsize : i.size = 1) (hby : i.bytes = bytes) (hzs : z.cells.size = 1)
    (A0 : Option Addr) (n0 c0 : Nat) (xs : List Value) (hs : a.eval s = .slice A0 n0 c0) (hown : w.ownsRow base e 1 (.slice A0 n0 c0) n0 xs)
    (B : Nat) (A : Option Addr) (m c : Nat) (news : List Value) (hx : a.eval x = .slice A m c) (hm : news.length = m) (hr : Rd w B A news) (h1 : ∀ u ∈ news, u.oneCell' = true)
    (h63 : n0 + m ≤ maxLen) (hbytes : (n0 + m) * bytes ≤ 140737488355328) (hbase : base ≤ w.heap.size)
    (h : ∀ A' c' w', w'.ownsRow base e 1 (.slice A' (n0 + m) c') (n0 + m) (xs ++ news) → w.grownBy w' (Value.slice A0 n0 c0).ownBlock → Below base w w' → wpList P ops Q rest (a.put o.dst (.slice A' (n0 + m) c')) w') :
    wpList P ops Q (o :: rest) a w := by
  refine wpList_plain hgd fun K hK => ?_
  obtain ⟨A', c', w', hrun, h2, h3, h4⟩ := run_app (P := P) w base t o.type e i z bytes ht hi hz hsize hby hzs A0 n0 c0 xs hown B A m c news hm hr h1 h63 hbytes hbase
  unfold Oper.wp execOp
  simp only [ho, resolve, invoke, builtin, Sem.run_bind, Sem.run_pure, Result.andThen_ok, List.map_toArray, List.map_cons, List.map_nil, hs, hx, hrun]
  exact hK _ _ (h A' c' w' h2 h3 h4)
end
theorem one_byte {b : UInt8} : ∀ u ∈ [bv b], u.oneCell' = true := by
  intro u hu
  rw [List.mem_singleton] at hu
  subst hu
  rfl
theorem own_cap {w : World} {base : Nat} {e : TypeId} {A : Option Addr} {n c : Nat} {vs : List Value} (h : w.ownsRow base e 1 (.slice A n c) n vs) : n ≤ c ∧ c ≤ maxLen := by
  rcases h.2 with ⟨hv, h0⟩ | ⟨g, cp, cur, hv, _, _, h1, h2, _⟩
  · injection hv with _ _ hc
    subst hc
    subst h0
    exact ⟨Nat.le_refl _, Nat.zero_le _⟩
  · injection hv with _ _ hc
    subst hc
    exact ⟨h1, h2⟩
theorem own_at {w : World} {base : Nat} {e : TypeId} {A : Option Addr} {n c : Nat} {vs : List Value} (h : w.ownsRow base e 1 (.slice A n c) n vs) (hn : 0 < n) : ∃ g, A = some ⟨g, 0, none⟩ ∧ base ≤ g := by
  obtain ⟨g, cap, hv, hb, _⟩ := h.form hn
  have hA : A = some ⟨g, 0, none⟩ := by injection hv
  exact ⟨g, hA, hb⟩
theorem own_made (w : World) (base : Nat) (e : TypeId) (z : Value) (n c : Nat) (hb : base ≤ w.heap.size) (hn : n ≤ c) (hc : c ≤ maxLen) :
    (w.alloc (.cells (madeCells #[z] c) e)).ownsRow base e 1 (.slice (some ⟨w.heap.size, 0, none⟩) n c) n (List.replicate n z) := by
  refine ⟨by simp, .inr ⟨w.heap.size, c, madeCells #[z] c, rfl, hb, heap_alloc_new w _, hn, hc, by simp [size_madeCells], ?_⟩⟩
  apply List.ext_getElem
  · simp [size_madeCells]; omega
  · intro i h1 h2
    simp [madeCells, Nat.mod_one]
/-- A text of noughts of which the first k are those of another. -/
def fillB (bs : List UInt8) (k : Nat) : List UInt8 := bs.take k ++ List.replicate (bs.length - k) 0
theorem fillB_length (bs : List UInt8) (k : Nat) (h : k ≤ bs.length) : (fillB bs k).length = bs.length := by simp [fillB]; omega
theorem fillB_zero (bs : List UInt8) : fillB bs 0 = List.replicate bs.length 0 := by simp [fillB]
theorem fillB_all (bs : List UInt8) : fillB bs bs.length = bs := by simp [fillB]
theorem fillB_set (bs : List UInt8) (k : Nat) (h : k < bs.length) : (fillB bs k).set k bs[k] = fillB bs (k + 1) := by
  unfold fillB
  have e : bs.length - k = (bs.length - (k + 1)) + 1 := by omega
  have hl : (bs.take k).length = k := by simp; omega
  rw [List.set_append_right _ _ (by omega), hl, Nat.sub_self, e, List.replicate_succ, List.set_cons_zero, List.take_succ_eq_append_getElem h, List.append_assoc]
  rfl
/-- Place j of a slice of bytes of the call's own, and what a store there makes. -/
theorem own_byte {w : World} {base g n c : Nat} {e : TypeId} {bs : List UInt8} (h : w.ownsRow base e 1 (.slice (some ⟨g, 0, none⟩) n c) n (bs.map bv)) {j : Nat} (hj : j < bs.length) :
    w.cell? ⟨g, j, none⟩ = some (.int .u8 ((bs[j]).toNat : Int)) ∧ w.frozen? ⟨g, j, none⟩ = false ∧
      ∀ (b : UInt8) (k : Nat), (w.drewN k).setCell ⟨g, j, none⟩ (.int .u8 (b.toNat : Int)) |>.ownsRow base e 1 (.slice (some ⟨g, 0, none⟩) n c) n ((bs.set j b).map bv) := by
  have hl : bs.length = n := by simpa using h.1
  refine ⟨?_, h.frozenAt j, fun b k => ?_⟩
  · rw [h.cellAt j (by omega)]
    simp [hj, bv]
  · rw [List.map_set]
    exact (World.ownsRow.stored (w := w.drewN k) h j (bv b)).1
theorem one_bytes {bs : List UInt8} : ∀ u ∈ bs.map bv, u.oneCell' = true := by
  intro u hu
  obtain ⟨b, _, rfl⟩ := List.mem_map.1 hu
  rfl
theorem ret_eq {a b : Value} (h : a = b) : Ending.returned a = .returned b := by rw [h]
theorem int_eq {k : IntKind} {a b : Int} (h : a = b) : Value.int k a = .int k b := by rw [h]
theorem nat_eq {k : IntKind} {a b : Nat} (h : a = b) : Value.int k (a : Int) = .int k (b : Int) := by rw [h]
theorem bool_eq {a b : Bool} (h : a = b) : Value.bool a = .bool b := by rw [h]
end Cib
