/- Texts that are in use elsewhere, put together. -/
import Derived.Test.YthlpcghoijgeiaaGreatLoC
/-! Sto -/
section
set_option linter.unusedVariables false
set_option linter.unusedSimpArgs false
set_option maxRecDepth 20000
namespace Cib
open Go Go.RowKit Go.Proofs
/-- A byte is stored into one of the rows that the call made. -/
theorem RowsNew.store {w : World} {base : Nat} {L : List RowB} (h : RowsNew w base L) {at_ spot g : Nat} (hat : at_ < L.length) (hA : L[at_].A = some ⟨g, 0, none⟩) (hs : spot < L[at_].bs.length) (z : UInt8) (q : Nat) :
    RowsNew ((w.drewN q).setCell ⟨g, spot, none⟩ (.int .u8 (z.toNat : Int))) base (L.set at_ ⟨L[at_].A, L[at_].n, L[at_].c, L[at_].bs.set spot z⟩) := by
  have hown := h.own _ (List.getElem_mem hat)
  have hgb : (Value.slice L[at_].A L[at_].n L[at_].c).ownBlock = some g := by rw [hA]; rfl
  have hpw := List.pairwise_iff_getElem.1 h.apart
  refine ⟨fun r hr => ?_, ?_⟩
  · obtain ⟨j, hj, rfl⟩ := List.mem_iff_getElem.1 hr
    rw [List.length_set] at hj
    rw [List.getElem_set]
    split
    · simp only
      rw [hA] at hown ⊢
      exact (own_byte hown hs).2.2 z q
    · rename_i hne
      refine ownsRow_setCell_other (w := w.drewN q) (h.own _ (List.getElem_mem hj)) (fun he => ?_) _
      rcases Nat.lt_or_gt_of_ne hne with hlt | hgt
      · exact hpw at_ j hat hj hlt g hgb he
      · exact hpw j at_ hj hat hgt g he hgb
  · have hmap : (L.set at_ ⟨L[at_].A, L[at_].n, L[at_].c, L[at_].bs.set spot z⟩).map (fun r : RowB => (r.A, r.n, r.c)) = L.map (fun r : RowB => (r.A, r.n, r.c)) := by
      apply List.ext_getElem
      · simp
      · intro j h1 h2
        simp only [List.getElem_map, List.getElem_set]
        split
        · rename_i he
          subst he
          rfl
        · rfl
    have h2 : (L.map (fun r : RowB => (r.A, r.n, r.c))).Pairwise (fun r s => ∀ k, (Value.slice r.1 r.2.1 r.2.2).ownBlock = some k → (Value.slice s.1 s.2.1 s.2.2).ownBlock ≠ some k) := List.pairwise_map.2 h.apart
    rw [← hmap] at h2
    exact List.pairwise_map.1 h2
theorem set_v {L : List RowB} {at_ : Nat} (hat : at_ < L.length) (x : List UInt8) : (L.set at_ ⟨L[at_].A, L[at_].n, L[at_].c, x⟩).map RowB.v = L.map RowB.v := by
  apply List.ext_getElem
  · simp
  · intro j h1 h2
    simp only [List.getElem_map, List.getElem_set]
    split
    · rename_i he
      subst he
      rfl
    · rfl
/-- A list of rows that were made behind w0, with nothing else changed. -/
structure Sts (w0 : World) (A : Option Addr) (n c : Nat) (L : List RowB) (wr : World) : Prop where
  own : wr.ownsRow w0.heap.size 22 1 (.slice A n c) n (L.map RowB.v)
  rows : RowsNew wr w0.heap.size L
  below : Below w0.heap.size w0 wr
theorem Sts.via {w0 wr w' : World} {A : Option Addr} {n c : Nat} {L : List RowB} (h : Sts w0 A n c L wr) (hb : Below wr.heap.size wr w') : Sts w0 A n c L w' :=
  ⟨own_via h.own hb, h.rows.below hb, h.below.via hb⟩
theorem Sts.spot {w0 wr : World} {A : Option Addr} {n c : Nat} {L : List RowB} (h : Sts w0 A n c L wr) {at_ spot : Nat} (hat : at_ < L.length) (hs : spot < L[at_].bs.length) :
    ∃ ad g, A = some ad ∧ (ad.add at_).block < wr.heap.size ∧ g < wr.heap.size ∧ L[at_].A = some ⟨g, 0, none⟩ ∧ wr.cell? (ad.add at_) = some (.slice (some ⟨g, 0, none⟩) L[at_].n L[at_].c) ∧ wr.cell? ⟨g, spot, none⟩ = some (.int .u8 (L[at_].bs[spot].toNat : Int)) ∧ wr.frozen? ⟨g, spot, none⟩ = false ∧
      ∀ (z : UInt8) (q : Nat), Sts w0 A n c (L.set at_ ⟨L[at_].A, L[at_].n, L[at_].c, L[at_].bs.set spot z⟩) ((wr.drewN q).setCell ⟨g, spot, none⟩ (.int .u8 (z.toNat : Int))) := by
  obtain ⟨ad, rfl, hab, hcell⟩ := (Rd.of_own h.own).row hat
  have hown := h.rows.own _ (List.getElem_mem hat)
  have hn : L[at_].bs.length = L[at_].n := by simpa using own_len hown
  obtain ⟨g, hg⟩ : ∃ g, L[at_].A = some ⟨g, 0, none⟩ ∧ w0.heap.size ≤ g ∧ g < wr.heap.size ∧ ∃ cs, Blk wr g 5 cs := by
    rcases hown.2 with ⟨h0, h1⟩ | ⟨g, cap, cur, hv, h1, h2, h3⟩
    · injection h0 with _ h0
      omega
    · injection hv with hv
      exact ⟨g, hv, h1, Blk.lt (t := 5) (cs := cur) h2, cur, h2⟩
  obtain ⟨hA, hg0, hg1, cs, hblk⟩ := hg
  have hown' := hown
  rw [hA] at hown'
  obtain ⟨hc1, hc2, hc3⟩ := own_byte hown' hs
  have hcell' := hcell
  rw [hA] at hcell'
  refine ⟨ad, g, rfl, by rw [addr_add_block]; exact hab, hg1, hA, hcell', hc1, hc2, fun z q => ⟨?_, h.rows.store hat hA hs z q, ((h.below.via (below_drewN (Below.refl _ _) q)).setCell (p := ⟨g, spot, none⟩) hg0 _)⟩⟩
  rw [set_v hat]
  refine ownsRow_setCell_other (w := wr.drewN q) h.own (fun he => ?_) _
  rcases h.own.2 with ⟨h0, _⟩ | ⟨g', cap', cur', h0, _, h2', _⟩
  · rw [h0] at he
    simp [Value.ownBlock] at he
  · rw [h0] at he
    simp [Value.ownBlock] at he
    subst he
    exact absurd (Ty.one (w := wr) ⟨_, _, h2'⟩ hblk.ty) rowNe
/-- The same, its parts named. -/
theorem Sts.spot2 {w0 wr : World} {A : Option Addr} {n c : Nat} {L : List RowB} (h : Sts w0 A n c L wr) {at_ spot W : Nat} (hat : at_ < L.length) (hW : L[at_].bs.length = W) (hs : spot < W) :
    ∃ ad g rc rb, A = some ad ∧ (ad.add at_).block < wr.heap.size ∧ g < wr.heap.size ∧ L[at_] = ⟨some ⟨g, 0, none⟩, W, rc, rb⟩ ∧ wr.cell? (ad.add at_) = some (.slice (some ⟨g, 0, none⟩) W rc) ∧ wr.cell? ⟨g, spot, none⟩ = some (.int .u8 ((rb.getD spot 0).toNat : Int)) ∧ wr.frozen? ⟨g, spot, none⟩ = false ∧
      ∀ (z : UInt8) (q : Nat), Sts w0 A n c (L.set at_ ⟨some ⟨g, 0, none⟩, W, rc, rb.set spot z⟩) ((wr.drewN q).setCell ⟨g, spot, none⟩ (.int .u8 (z.toNat : Int))) := by
  have hs' : spot < L[at_].bs.length := by omega
  obtain ⟨ad, g, hA, h1, h2, h3, h4, h5, h6, h7⟩ := h.spot hat hs'
  have hn : L[at_].n = W := by rw [← (h.rows.at _ (List.getElem_mem _)).len]; exact hW
  have hb : L[at_].bs[spot] = L[at_].bs.getD spot 0 := by simp [List.getD, hs']
  rw [hb] at h5
  obtain ⟨r, hr⟩ : ∃ r, L[at_] = r := ⟨_, rfl⟩
  rw [hr] at h3 h4 h5 h7 hn ⊢
  obtain ⟨rA, rn, rc, rb⟩ := r
  simp only at h3 h4 h5 h7 hn
  subst h3 hn
  exact ⟨ad, g, rc, rb, hA, h1, h2, rfl, h4, h5, h6, h7⟩
theorem Sts.cell {w0 wr : World} {ad : Addr} {n c : Nat} {L : List RowB} (h : Sts w0 (some ad) n c L wr) {at_ : Nat} (hat : at_ < L.length) {r : RowB} (hr : L[at_] = r) : wr.cell? (ad.add at_) = some r.v := by
  obtain ⟨ad', e, _, hcell⟩ := (Rd.of_own h.own).row hat
  cases e
  rw [← hr]
  exact hcell
end Cib

end
