/- PoolOnce: two lists apart, the law's state, the early outs. -/
import Derived.Test.YtdhadhhhicnhpaaPolV
import Derived.Test.YtdhadhhhicnhpaaPolQ
set_option linter.unusedVariables false
set_option linter.unusedSimpArgs false
set_option maxRecDepth 40000
namespace Bmp
theorem once_take {f : Nat} {O Z : List Bool} {U M : List Int} (h : OnceI f O Z U M) (n : Int) :
    OnceI f (takeF O n).2.2 Z (U ++ gotL f (takeF O n).1) M ∧ (∀ k (hk : k < (gotL f (takeF O n).1).length), (gotL f (takeF O n).1)[k] ∉ U ∧ (gotL f (takeF O n).1)[k] ∉ M ∧ (gotL f (takeF O n).1)[k] ∉ (gotL f (takeF O n).1).take k ∧ (f : Int) ≤ (gotL f (takeF O n).1)[k] ∧ (gotL f (takeF O n).1)[k] < (f : Int) + (O.length : Int)) ∧
      ((takeF O n).2.1 = 0 ∨ (takeF O n).1 = []) ∧ (takeF O n).2.2.length = O.length := by
  unfold takeF
  split
  · exact ⟨by simpa [gotL] using h, fun k hk => by simp [gotL] at hk, .inr rfl, rfl⟩
  · split
    · exact ⟨by simpa [gotL] using h, fun k hk => by simp [gotL] at hk, .inr rfl, rfl⟩
    · obtain ⟨h1, h2⟩ := h.take n
      exact ⟨h1, h2, .inl rfl, setN_length _ _⟩
theorem turnF_len (later : Bool) (f : Nat) (O Z : List Bool) (l : List Int) : (turnF later f O Z l).2.1.length = O.length := by
  have : ∀ (l : List Int) (s : Nat × List Bool × List Bool), (l.foldl (turn1 later f) s).2.1.length = s.2.1.length := by
    intro l
    induction l with
    | nil => intro s; rfl
    | cons x l ih =>
      intro s
      rw [List.foldl_cons, ih]
      unfold turn1
      split
      · cases later <;> simp
      · rfl
  exact this l (0, O, Z)
end Bmp
namespace Cib
open Go Go.RowKit Go.Proofs
theorem got_rows (f : Nat) (L : List Nat) : (Bmp.gotL f L).map zv = (L.map (· + f)).map iv := by
  unfold Bmp.gotL
  rw [List.map_map, List.map_map]
  rfl
/-- Two lists of numbers of the call's own, apart. -/
structure Ls2 (w : World) (B : Nat) (U M : List Int) (AU : Option Addr) (cU : Nat) (AM : Option Addr) (cM : Nat) : Prop where
  u : w.ownsRow B 3 1 (.slice AU U.length cU) U.length (U.map zv)
  m : w.ownsRow B 3 1 (.slice AM M.length cM) M.length (M.map zv)
  ne : ∀ b, (Value.slice AU U.length cU).ownBlock = some b → (Value.slice AM M.length cM).ownBlock ≠ some b
theorem own_grownO {w w' : World} {b s : Nat} {e : TypeId} {v : Value} {n : Nat} {xs : List Value} {row : Option Nat} (h : w.ownsRow b e s v n xs) (hg : w.grownBy w' row) (hr : ∀ k, v.ownBlock = some k → row ≠ some k) : w'.ownsRow b e s v n xs := by
  refine ⟨h.1, ?_⟩
  rcases h.2 with h0 | ⟨g, cap, cur, hv, h1, h2, h3⟩
  · exact .inl h0
  · exact .inr ⟨g, cap, cur, hv, h1, (hg.block g (Array.getElem?_eq_some_iff.1 h2).1 (fun e => hr g (by rw [hv]; rfl) e.symm)).trans h2, h3⟩
section
variable {w w' : World} {B : Nat} {U M : List Int} {AU AM : Option Addr} {cU cM : Nat}
theorem Ls2.same {ts} (h : Ls2 w B U M AU cU AM cM) (hs : Same ts w w') (ht : 3 ∉ ts) : Ls2 w' B U M AU cU AM cM := ⟨own_same h.u hs ht, own_same h.m hs ht, h.ne⟩
theorem Ls2.below (h : Ls2 w B U M AU cU AM cM) (hb : Below w.heap.size w w') : Ls2 w' B U M AU cU AM cM := h.same (ts := []) (Same.below hb) (by simp)
theorem Ls2.appU (h : Ls2 w B U M AU cU AM cM) {V : List Int} {A' : Option Addr} {c' k : Nat} (ho : w'.ownsRow B 3 1 (.slice A' (U.length + k) c') (U.length + k) (U.map zv ++ V.map zv)) (hk : V.length = k) (hg : w.grownBy w' (Value.slice AU U.length cU).ownBlock)
    (hx : (Value.slice A' (U.length + k) c').ownBlock = (Value.slice AU U.length cU).ownBlock ∨ (Value.slice A' (U.length + k) c').ownBlock = some w.heap.size) : Ls2 w' B (U ++ V) M A' c' AM cM := by
  have hl : (U ++ V).length = U.length + k := by simp [hk]
  refine ⟨by rw [hl, List.map_append]; exact ho, own_grownO h.m hg fun k hk e => h.ne k e hk, fun b hb hm => ?_⟩
  rw [hl] at hb
  rcases hx with hx | hx
  · exact h.ne b (hx ▸ hb) hm
  · have := (h.m.lt b hm).2
    rw [hx] at hb
    injection hb with hb
    omega
theorem Ls2.appM (h : Ls2 w B U M AU cU AM cM) {V : List Int} {A' : Option Addr} {c' k : Nat} (ho : w'.ownsRow B 3 1 (.slice A' (M.length + k) c') (M.length + k) (M.map zv ++ V.map zv)) (hk : V.length = k) (hg : w.grownBy w' (Value.slice AM M.length cM).ownBlock)
    (hx : (Value.slice A' (M.length + k) c').ownBlock = (Value.slice AM M.length cM).ownBlock ∨ (Value.slice A' (M.length + k) c').ownBlock = some w.heap.size) : Ls2 w' B U (M ++ V) AU cU A' c' := by
  have hl : (M ++ V).length = M.length + k := by simp [hk]
  refine ⟨own_grownO h.u hg fun k hk e => h.ne k hk e, by rw [hl, List.map_append]; exact ho, fun b hb hm => ?_⟩
  rw [hl] at hm
  rcases hx with hx | hx
  · exact h.ne b hb (hx ▸ hm)
  · have := (h.u.lt b hb).2
    rw [hx] at hm
    injection hm with hm
    omega
/-- Another list in U's place, made anew. -/
theorem Ls2.newU (h : Ls2 w B U M AU cU AM cM) (hB : B ≤ w.heap.size) {V : List Int} {A' : Option Addr} {c' : Nat} (ho : w'.ownsRow w.heap.size 3 1 (.slice A' V.length c') V.length (V.map zv)) (hb : Below w.heap.size w w') : Ls2 w' B V M A' c' AM cM :=
  ⟨own_lowerS ho hB, own_belowS h.m hb, fun b h1 h2 => by have := (ho.lt b h1).1; have := (h.m.lt b h2).2; omega⟩
theorem Ls2.noM (h : Ls2 w B U M AU cU AM cM) : Ls2 w B U [] AU cU none 0 := ⟨h.u, World.ownsRow_nil _ _ _ _, fun b _ h2 => by simp [Value.ownBlock] at h2⟩
theorem Ls2.none (w : World) (B : Nat) : Ls2 w B [] [] none 0 none 0 := ⟨World.ownsRow_nil _ _ _ _, World.ownsRow_nil _ _ _ _, fun b h1 => by simp [Value.ownBlock] at h1⟩
theorem Pl.sameI {g f : Nat} {x : PlP} {O Z : List Bool} (h : Pl w B g f x O Z) (hs : Same [3] w w') : Pl w' B g f x O Z :=
  ⟨h.blk.same hs (by decide), h.mo.same hs (by decide) (by decide), h.ml.same hs (by decide) (by decide), h.ne, h.len, h.pos, h.fits, h.many, h.hg⟩
end
section
variable {P : Program} (w : World)
/-- append, and where the row lies behind it. -/
theorem wpList_appX {ops : Array Oper} {rest : List Oper} {o : Oper} {a : Go.Act} {Q : Exit → Go.Act → World → Prop} (hgd : o.guard = none) (s x : Operand) (t : TypeId)
    (ho : o.op = .call { callee := .builtin .append, args := #[s, x], argTypes := #[t, t] })
    (base : Nat) (e : TypeId) (i : TypeInfo) (z : Value) (bytes : Nat) (ht : P.underlying t = some (.slice e)) (hi : P.info? e = some i) (hz : i.zero = some z)
    (hsize : i.size = 1) (hby : i.bytes = bytes) (hzs : z.cells.size = 1)
    (A0 : Option Addr) (n0 c0 : Nat) (xs : List Value) (hs : a.eval s = .slice A0 n0 c0) (hown : w.ownsRow base e 1 (.slice A0 n0 c0) n0 xs)
    (B : Nat) (A : Option Addr) (m c : Nat) (news : List Value) (hx : a.eval x = .slice A m c) (hm : news.length = m) (hr : Rd w B A news) (h1 : ∀ u ∈ news, u.oneCell' = true)
    (h63 : n0 + m ≤ maxLen) (hbytes : (n0 + m) * bytes ≤ 140737488355328) (hbase : base ≤ w.heap.size)
    (h : ∀ A' c' w', w'.ownsRow base e 1 (.slice A' (n0 + m) c') (n0 + m) (xs ++ news) → w.grownBy w' (Value.slice A0 n0 c0).ownBlock → Below base w w' →
      ((Value.slice A' (n0 + m) c').ownBlock = (Value.slice A0 n0 c0).ownBlock ∨ (Value.slice A' (n0 + m) c').ownBlock = some w.heap.size) → wpList P ops Q rest (a.put o.dst (.slice A' (n0 + m) c')) w') :
    wpList P ops Q (o :: rest) a w := by
  refine wpList_plain hgd fun K hK => ?_
  have key : ∃ A' c' w', (Builtin.append_ #[t, t] o.type #[.slice A0 n0 c0, .slice A m c]).run P w = .ok (.slice A' (n0 + m) c') w' ∧ w'.ownsRow base e 1 (.slice A' (n0 + m) c') (n0 + m) (xs ++ news) ∧ w.grownBy w' (Value.slice A0 n0 c0).ownBlock ∧ Below base w w' ∧
      ((Value.slice A' (n0 + m) c').ownBlock = (Value.slice A0 n0 c0).ownBlock ∨ (Value.slice A' (n0 + m) c').ownBlock = some w.heap.size) := by
    rcases A with _ | ad
    · have hn : news = [] := by
        rcases news with _ | ⟨x, xs⟩
        · rfl
        · obtain ⟨ad, h, _⟩ := hr (by simp)
          cases h
      subst hn
      have hm0 : m = 0 := by simpa using hm.symm
      subst hm0
      exact ⟨A0, c0, w, run_app_nil w base t o.type e i ht hi _ n0 xs hown c, by simpa using hown, World.grownBy.refl w _, Below.refl _ _, .inl rfl⟩
    · have hcells : ∀ j u, news[j]? = some u → w.cell? (ad.add j) = some u := by
        intro j u hu
        obtain ⟨hj, he⟩ := List.getElem?_eq_some_iff.1 hu
        obtain ⟨ad', h, _, hc⟩ := hr (by rintro rfl; simp at hj)
        injection h with h
        subst h
        rw [hc j hj, he]
      obtain ⟨v', w', hrun, h2, h3, _, h5⟩ := run_append_own_at (P := P) w base t o.type e i z 1 bytes ht hi hz hsize hby hzs (by decide) _ n0 xs hown ad m c news (by omega) hcells h1 h63 hbytes hbase
      obtain ⟨A', c', rfl⟩ : ∃ A' c', v' = .slice A' (n0 + m) c' := by
        rcases Joins.ownsRow_forms h2 with ⟨rfl, h0⟩ | ⟨g, cap, rfl⟩
        · exact ⟨none, 0, by rw [h0]⟩
        · exact ⟨_, _, rfl⟩
      exact ⟨A', c', w', hrun, h2, h3, (Below.refl base w).grown h3 hbase fun k hk => (hown.lt k hk).1, h5⟩
  obtain ⟨A', c', w', hrun, h2, h3, h4, h5⟩ := key
  unfold Oper.wp execOp
  simp only [ho, resolve, invoke, builtin, Sem.run_bind, Sem.run_pure, Result.andThen_ok, List.map_toArray, List.map_cons, List.map_nil, hs, hx, hrun]
  exact hK _ _ (h A' c' w' h2 h3 h4 h5)
end
/-- The law's state: the pool and both lists. -/
structure OnS (w : World) (g f N : Nat) (x : PlP) (O Z : List Bool) (U M : List Int) (AU : Option Addr) (cU : Nat) (AM : Option Addr) (cM : Nat) (wr : World) : Prop where
  pl : Pl wr w.heap.size g f x O Z
  once : Bmp.OnceI f O Z U M
  hO : O.length = N
  ls : Ls2 wr w.heap.size U M AU cU AM cM
  below : Below w.heap.size w wr
/-- The same, before Once holds again. -/
structure OnT (w : World) (g f : Nat) (x : PlP) (O Z : List Bool) (U M : List Int) (AU : Option Addr) (cU : Nat) (AM : Option Addr) (cM : Nat) (wr : World) : Prop where
  pl : Pl wr w.heap.size g f x O Z
  ls : Ls2 wr w.heap.size U M AU cU AM cM
  below : Below w.heap.size w wr
section
variable {w wr wr' : World} {g f N : Nat} {x : PlP} {O Z : List Bool} {U M : List Int} {AU AM : Option Addr} {cU cM : Nat}
theorem OnS.on (h : OnS w g f N x O Z U M AU cU AM cM wr) (hb : Below wr.heap.size wr wr') : OnS w g f N x O Z U M AU cU AM cM wr' := ⟨h.pl.below hb, h.once, h.hO, h.ls.below hb, h.below.trans (hb.mono h.below.size)⟩
theorem OnS.few (h : OnS w g f N x O Z U M AU cU AM cM wr) : U.length + M.length ≤ N := by
  have := h.once.all
  have h2 : O.count true ≤ O.length := List.count_le_length ..
  rw [h.hO] at h2
  omega
theorem OnT.drewN (h : OnT w g f x O Z U M AU cU AM cM wr) (q : Nat) : OnT w g f x O Z U M AU cU AM cM (wr.drewN q) := ⟨h.pl.drewN q, ⟨h.ls.u, h.ls.m, h.ls.ne⟩, below_drewN h.below q⟩
end
def Out1 (f n : Int) (l : List ActP) : Prop := plOk f n = false ∨ 100 < n ∨ fewP l = false
set_option maxHeartbeats 4000000 in
theorem lawOnceOut (first count : Int) (A : Option Addr) (cap : Nat) (l : List ActP) (w : World) (h : Rd w w.heap.size A (l.map actPRow).flatten) (hl : l.length ≤ maxLen) (hf : -9223372036854775808 ≤ first ∧ first ≤ 9223372036854775807) (hc : -9223372036854775808 ≤ count ∧ count ≤ 9223372036854775807) (ho : Out1 first count l) :
    Calls Try.prog 3 #[.int .i64 first, .int .i64 count, .slice A l.length cap] w fun e w' => e = .returned (.bool true) ∧ Below w.heap.size w w' := by
  have HG := Lib.hid (fun W => lawGives W)
  by_cases hp : plOk first count = true
  · have hp' : 0 ≤ first ∧ 1 ≤ count ∧ count ≤ 400 ∧ first + count ≤ 600 := of_decide_eq_true hp
    obtain ⟨hp1, hp2, hp3, hp4⟩ := hp'
    obtain ⟨f, rfl⟩ : ∃ f : Nat, first = f := ⟨first.toNat, by omega⟩
    obtain ⟨N, rfl⟩ : ∃ N : Nat, count = N := ⟨count.toNat, by omega⟩
    have HN := Lib.hid (plNew f N (by omega) (by omega) (by omega) w)
    by_cases hbig : 100 < N
    · clear h hp ho
      go_enter Try.func3, Try.ntmps3
      go_wp2_with fail
      refine HN.out.mono ?_
      rintro e w1 ⟨g, x, rfl, hp1, hb1⟩
      go_wp2_with fail
      refine (HG.out _).mono ?_
      rintro e w2 ⟨rfl, hb2⟩
      go_wp2
      go_ret
      exact ⟨rfl, hb1.via hb2⟩
    · have HFW := Lib.hid fun w1 (hb : Below w.heap.size w w1) => lawFewP (h.below hb) rfl hl cap
      have hbf : fewP l = false := by
        rcases ho with ho | ho | ho
        · rw [hp] at ho
          cases ho
        · omega
        · exact ho
      rw [hbf] at HFW
      clear h hp ho hbf
      go_enter Try.func3, Try.ntmps3
      go_wp2_with fail
      refine HN.out.mono ?_
      rintro e w1 ⟨g, x, rfl, hp1, hb1⟩
      have HF1 := Lib.hid (HFW.out w1 hb1)
      clear HFW
      go_wp2_with fail
      refine HF1.out.mono ?_
      rintro e w2 ⟨rfl, rfl⟩
      go_wp2_with fail
      refine (HG.out _).mono ?_
      rintro e w3 ⟨rfl, hb3⟩
      go_wp2
      go_ret
      exact ⟨rfl, hb1.via hb3⟩
  · have HN := Lib.hid (plNew0 first count hf hc (by simpa using hp) w)
    clear h hp ho
    go_enter Try.func3, Try.ntmps3
    go_wp2_with fail
    refine HN.out.mono ?_
    rintro e w1 ⟨rfl, rfl⟩
    go_wp2_with fail
    refine (HG.out _).mono ?_
    rintro e w3 ⟨rfl, hb3⟩
    go_wp2
    go_ret
    exact ⟨rfl, hb3⟩
end Cib
