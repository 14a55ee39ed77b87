/- A reading that no cell of a fresh, empty type lies in: it is kept where that one is written. -/
import Derived.Test.YtkeeknlfommieaaB9
namespace Go.Proofs.Ytkeeknlfommieaa.PF
open Go.RowKit Go.Shelf Go.Proofs.YtkeeknlfommieaaW.PrintWords Go.Proofs.YtkeeknlfommieaaW.PrintLast Go.Proofs.YtkeeknlfommieaaW.PrintMore

theorem addb (a : Addr) (n : Nat) : (a.add n).block = a.block := by unfold Addr.add; first | rfl | (split <;> rfl)
def Plain (W : World) (bt : Nat) : Prop := W.heap[bt]? = some (.cells #[.int .i64 0, .int .i64 0, .string ⟨#[]⟩, .slice none 0 0, .slice none 0 0] 26 (0, 0))
theorem Plain.ne {W : World} {bt : Nat} (h : Plain W bt) {a : Addr} {u : Value} (hc : W.cell? a = some u) (hu : u ≠ .int .i64 0 ∧ u ≠ .string ⟨#[]⟩ ∧ u ≠ .slice none 0 0) : a.block ≠ bt := by
  intro e
  unfold World.cell? at hc
  rw [e, show W.heap[bt]? = _ from h] at hc
  dsimp only at hc
  split at hc
  · cases hc
  · generalize a.off = o at hc
    match o, hc with
    | 0, hc => exact hu.1 (by simpa using hc.symm)
    | 1, hc => exact hu.1 (by simpa using hc.symm)
    | 2, hc => exact hu.2.1 (by simpa using hc.symm)
    | 3, hc => exact hu.2.2 (by simpa using hc.symm)
    | 4, hc => exact hu.2.2 (by simpa using hc.symm)
    | o + 5, hc => simp at hc
/-- Off block bt the two worlds are one. -/
def OffB (W W' : World) (bt : Nat) : Prop := ∀ k, k ≠ bt → W'.heap[k]? = W.heap[k]?
theorem OffB.cell {W W' : World} {bt : Nat} (h : OffB W W' bt) {a : Addr} (hne : a.block ≠ bt) : W'.cell? a = W.cell? a := World.cell?_of_block (h _ hne)
theorem offS {W W' : World} {bt : Nat} (h : OffB W W' bt) (hp : Plain W bt) {A : Option Addr} {ls : List ByteArray} (hC : Kd.string.C W A ls.length ls) (hs : ∀ s ∈ ls, s ≠ ⟨#[]⟩) : Kd.string.C W' A ls.length ls := by
  refine ⟨hC.1, hC.2.1, fun h0 => ?_⟩
  obtain ⟨ad, rfl, hall⟩ := hC.2.2 h0
  obtain ⟨ad', e, hc0⟩ := elS hC 0 h0
  cases e
  have hne : ad.block ≠ bt := hp.ne hc0 ⟨by simp, by simpa using hs _ (List.getElem_mem h0), by simp⟩
  refine ⟨ad, rfl, fun j p hj => ?_⟩
  obtain ⟨c, h1, h2, h3⟩ := hall j p hj
  exact ⟨c, h1, h2, fun i u hu => (h.cell (a := ad.add (j * _ + i)) (by rw [addb]; exact hne)).trans (h3 i u hu)⟩

/-- No kind is 0, no label is empty. -/
inductive FullT : S26 → Prop
  | mk (k n : Int) (nm : ByteArray) (ls : List ByteArray) (ar : List S26) (hk : k ≠ 0) (hs : ∀ s ∈ ls, s ≠ ⟨#[]⟩) (ha : ∀ x ∈ ar, FullT x) : FullT ⟨k, n, nm, ls, ar⟩
theorem off26 {W W' : World} {bt : Nat} (h : OffB W W' bt) (hp : Plain W bt) (x : S26) : FullT x → ∀ {cs : List Value}, k26.K W x cs → k26.K W' x cs := by
  induction x using S26.ind with
  | h k n nm ls ar ih =>
  intro hx cs hK
  cases hx with
  | mk _ _ _ _ _ hk hs ha =>
  obtain ⟨A3, c3, A4, c4, rfl, l3, g3, l4, g4⟩ := k26_open hK
  dsimp only at l3 g3 l4 g4
  refine k26_mk W' ⟨k, n, nm, ls, ar⟩ l3 (offS h hp g3 hs) l4 ?_
  dsimp only
  refine ⟨g4.1, g4.2.1, fun h0 => ?_⟩
  obtain ⟨ad, rfl, hall⟩ := g4.2.2 h0
  obtain ⟨ad', B3, d3, B4, d4, e, hc0, _⟩ := el26 g4 0 h0
  cases e
  have hne : ad.block ≠ bt := by
    have hf := ha _ (List.getElem_mem h0)
    refine hp.ne hc0 ⟨?_, by simp, by simp⟩
    intro e
    generalize ar[0] = z at hf e
    cases hf with
    | mk k' _ _ _ _ hk' _ _ => exact hk' (by simpa using e)
  refine ⟨ad, rfl, fun j p hj => ?_⟩
  obtain ⟨c, h1, h2, h3⟩ := hall j p hj
  have hm : p ∈ ar := List.mem_of_getElem? hj
  exact ⟨c, h1, ih p hm (ha p hm) h2, fun i u hu => (h.cell (a := ad.add (j * _ + i)) (by rw [addb]; exact hne)).trans (h3 i u hu)⟩
theorem RT.off {W W' : World} {bt : Nat} (h : OffB W W' bt) (hp : Plain W bt) {v : Value} {x : S26} (hx : FullT x) (hr : RT W v x) : RT W' v x := by
  obtain ⟨A3, c3, A4, c4, rfl, l3, g3, l4, g4⟩ := hr
  have := off26 h hp x hx (k26_mk W x l3 g3 l4 g4)
  obtain ⟨B3, d3, B4, d4, e, l3', g3', l4', g4'⟩ := k26_open this
  simp at e
  obtain ⟨⟨rfl, rfl⟩, rfl, rfl⟩ := e
  exact ⟨A3, c3, A4, c4, rfl, l3, g3', l4, g4'⟩
theorem offB_put5 {W : World} {g : Nat} {b0 b1 b2 b3 b4 : Value} : OffB W (((((W.setCell ⟨g, 0, none⟩ b0).setCell ⟨g, 1, none⟩ b1).setCell ⟨g, 2, none⟩ b2).setCell ⟨g, 3, none⟩ b3).setCell ⟨g, 4, none⟩ b4) g := by
  intro k hk
  have : ∀ (W : World) (i : Nat) (u : Value), (W.setCell ⟨g, i, none⟩ u).heap[k]? = W.heap[k]? := fun W i u => Below.heap_setCell W ⟨g, i, none⟩ u k hk
  rw [this, this, this, this, this]
theorem put5P {W : World} {g : Nat} {b0 b1 b2 b3 b4 : Value} (h : Plain W g) : (((((W.setCell ⟨g, 0, none⟩ b0).setCell ⟨g, 1, none⟩ b1).setCell ⟨g, 2, none⟩ b2).setCell ⟨g, 3, none⟩ b3).setCell ⟨g, 4, none⟩ b4).heap[g]? = some (.cells #[b0, b1, b2, b3, b4] 26 (0, 0)) := put5 h
end Go.Proofs.Ytkeeknlfommieaa.PF
