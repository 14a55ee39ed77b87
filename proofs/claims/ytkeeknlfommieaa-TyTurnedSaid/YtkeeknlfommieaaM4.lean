/- ty.Depth. · A reading that no cell of a fresh, empty type lies in: it is kept where that one is written. · The laws' own awake: it returns true. · The sort's exchange of two ranges: plain, and the walk, over any program that bears the body. · The sort's rotation: plain, and the walk. · The sort's rotation: the walk. · The merge, plain. · The merge, plain: the split. · The sort's merge: the walk. -/
import Derived.Test.YtkeeknlfommieaaM0
import Derived.Test.YtkeeknlfommieaaM1
import Derived.Test.YtkeeknlfommieaaM2
import Derived.Test.YtkeeknlfommieaaWLast
import Derived.Shelf.SlSortCmp.KitK
import Derived.Sort.WalkB2
import Derived.Sort.WalkB12
import Derived.Deep.LoopGhost
import Derived.Test.YtkeeknlfommieaaProg
import Derived.Sort.LotA
namespace Go.Proofs.Ytkeeknlfommieaa.PF
open Go.RowKit Go.Shelf Go.Proofs.YtkeeknlfommieaaW.PrintWords Go.Proofs.YtkeeknlfommieaaW.PrintLast Go.Proofs.YtkeeknlfommieaaW.PrintMore

mutual
def depT : S26 → Nat
  | ⟨_, _, _, _, ar⟩ => depL ar + 1
def depL : List S26 → Nat
  | [] => 0
  | x :: l => Nat.max (depT x) (depL l)
end
mutual
def sizT : S26 → Nat
  | ⟨_, _, _, _, ar⟩ => sizL ar + 1
def sizL : List S26 → Nat
  | [] => 0
  | x :: l => sizT x + sizL l
end
theorem depL_app (l m : List S26) : depL (l ++ m) = Nat.max (depL l) (depL m) := by
  induction l with
  | nil => simp [depL]
  | cons x l ih => rw [List.cons_append, depL, depL, ih]; exact (Nat.max_assoc _ _ _).symm
theorem depL_take (l : List S26) (k : Nat) (h : k < l.length) : depL (l.take (k + 1)) = Nat.max (depL (l.take k)) (depT l[k]) := by
  rw [List.take_succ_eq_append_getElem h, depL_app]
  simp [depL]
theorem depL_mem (l : List S26) (x : S26) (h : x ∈ l) : depT x ≤ depL l := by
  induction l with
  | nil => cases h
  | cons y l ih =>
    rw [depL]
    rcases List.mem_cons.1 h with rfl | h
    · exact Nat.le_max_left _ _
    · exact Nat.le_trans (ih h) (Nat.le_max_right _ _)
set_option maxRecDepth 100000 in
set_option maxHeartbeats 2000000 in
theorem depth_calls (t : S26) : ∀ (_ : depT t ≤ 4611686018427387904) (w : World) (A3 : Option Addr) (c3 : Nat) (A4 : Option Addr) (c4 : Nat) (_ : t.f3.length ≤ c3) (_ : Kd.string.C w A3 t.f3.length t.f3) (_ : t.f4.length ≤ c4) (_ : k26.C w A4 t.f4.length t.f4),
    Calls Try.prog 29 #[.agg #[.int .i64 t.f0, .int .i64 t.f1, .string t.f2, .slice A3 t.f3.length c3, .slice A4 t.f4.length c4]] w fun e w' => e = .returned (.int .i64 (depT t)) ∧ Below w.heap.size w w' := by
  induction t using S26.ind with
  | h k0 n nm ls ar ih =>
  intro hbig w A3 c3 A4 c4 l3 g3 l4 g4
  dsimp only at l3 g3 l4 g4 hbig ⊢
  have hE : depT ⟨k0, n, nm, ls, ar⟩ = depL ar + 1 := by rw [depT]
  rw [hE] at hbig ⊢
  have HG4 := Aside0.mk g4
  have HIH := Aside0.mk ih
  have HBIG := Aside0.mk hbig
  have hl4 := g4.2.1
  clear ih l3 g3 l4 g4 hbig hE
  go_enter Try.func29, Try.ntmps29
  go_wp2
  go_loopg [3, 9] ar.length (fun gk v i wr => ∃ (k : Nat), v = .int .i64 (depL (ar.take k) : Nat) ∧ i = .int .i64 k ∧ Aside0 (gk + k = ar.length) ∧ Aside0 (Below w.heap.size w wr))
  case atStart => exact ⟨0, by simp [depL], rfl, ⟨by omega⟩, ⟨below_alloc (Below.refl _ _) _⟩⟩
  case round =>
    obtain ⟨k, rfl, rfl, HK, HB⟩ := hrel
    by_cases hlt : k < ar.length
    · have hltZ : ((k : Int) < (ar.length : Int)) := by omega
      obtain ⟨ad, B3, d3, B4, d4, e, h0, h1, h2, h3, h4, l3, g3, l4, g4⟩ := el26 (Kd.C_below HG4.out HB.out) k hlt
      cases e
      have hdl : depT ar[k] ≤ depL ar := depL_mem _ _ (List.getElem_mem hlt)
      have ha : Below wr.heap.size wr (wr.alloc (.cells #[.int .i64 ar[k].f0, .int .i64 ar[k].f1, .string ar[k].f2, .slice B3 ar[k].f3.length d3, .slice B4 ar[k].f4.length d4] 26)) := below_alloc (Below.refl _ _) _
      have HC := Aside0.mk (HIH.out ar[k] (List.getElem_mem hlt) (by have := HBIG.out; omega) _ B3 d3 B4 d4 l3 (Kd.C_below g3 ha) l4 (Kd.C_below g4 ha))
      have HT := Aside0.mk (depL_take ar k hlt)
      have HLT := Aside0.mk hlt
      generalize ar[k] = x at *
      clear l3 g3 l4 g4 hlt ha hdl
      go_wp2_with (go_at_call 29; refine HC.out.mono ?_; rintro e w1 ⟨rfl, hb1⟩)
      all_goals
        go_roundg (gk - 1)
        case measure => have := HK.out; have := HLT.out; omega
        case rel => exact ⟨k + 1, by rw [HT.out]; simp only [Nat.max_def]; split <;> first | rfl | (congr 1; omega), by go_num, ⟨by have := HK.out; have := HLT.out; omega⟩, ⟨HB.out.trans (((below_alloc (Below.refl _ _) _).trans (hb1.mono (by simp))).mono HB.out.size)⟩⟩
    · have hltz : ¬ (k : Int) < (ar.length : Int) := by omega
      go_wp2
      go_ret
      exact ⟨ret_int (by rw [show k = ar.length by have := HK.out; omega, List.take_length]; have := HBIG.out; unfold wrap64; omega), HB.out⟩
end Go.Proofs.Ytkeeknlfommieaa.PF
namespace Go.Proofs.Ytkeeknlfommieaa.PF
open Go.RowKit Go.Shelf Go.Proofs.YtkeeknlfommieaaW.PrintWords Go.Proofs.YtkeeknlfommieaaW.PrintLast Go.Proofs.YtkeeknlfommieaaW.PrintMore

theorem addb (a : Addr) (n : Nat) : (a.add n).block = a.block := by unfold Addr.add; first | rfl | (split <;> rfl)
def Plain (W : World) (bt : Nat) : Prop := W.heap[bt]? = some (.cells #[.int .i64 0, .int .i64 0, .string ⟨#[]⟩, .slice none 0 0, .slice none 0 0] 26 (0, 0))
theorem Plain.ne {W : World} {bt : Nat} (h : Plain W bt) {a : Addr} {u : Value} (hc : W.cell? a = some u) (hu : u ≠ .int .i64 0 ∧ u ≠ .string ⟨#[]⟩ ∧ u ≠ .slice none 0 0) : a.block ≠ bt := by
  intro e
  unfold World.cell? at hc
  rw [e, show W.heap[bt]? = _ from h] at hc
  dsimp only at hc
  split at hc
  · cases hc
  · generalize a.off = o at hc
    match o, hc with
    | 0, hc => exact hu.1 (by simpa using hc.symm)
    | 1, hc => exact hu.1 (by simpa using hc.symm)
    | 2, hc => exact hu.2.1 (by simpa using hc.symm)
    | 3, hc => exact hu.2.2 (by simpa using hc.symm)
    | 4, hc => exact hu.2.2 (by simpa using hc.symm)
    | o + 5, hc => simp at hc
/-- Off block bt the two worlds are one. -/
def OffB (W W' : World) (bt : Nat) : Prop := ∀ k, k ≠ bt → W'.heap[k]? = W.heap[k]?
theorem OffB.cell {W W' : World} {bt : Nat} (h : OffB W W' bt) {a : Addr} (hne : a.block ≠ bt) : W'.cell? a = W.cell? a := World.cell?_of_block (h _ hne)
theorem offS {W W' : World} {bt : Nat} (h : OffB W W' bt) (hp : Plain W bt) {A : Option Addr} {ls : List ByteArray} (hC : Kd.string.C W A ls.length ls) (hs : ∀ s ∈ ls, s ≠ ⟨#[]⟩) : Kd.string.C W' A ls.length ls := by
  refine ⟨hC.1, hC.2.1, fun h0 => ?_⟩
  obtain ⟨ad, rfl, hall⟩ := hC.2.2 h0
  obtain ⟨ad', e, hc0⟩ := elS hC 0 h0
  cases e
  have hne : ad.block ≠ bt := hp.ne hc0 ⟨by simp, by simpa using hs _ (List.getElem_mem h0), by simp⟩
  refine ⟨ad, rfl, fun j p hj => ?_⟩
  obtain ⟨c, h1, h2, h3⟩ := hall j p hj
  exact ⟨c, h1, h2, fun i u hu => (h.cell (a := ad.add (j * _ + i)) (by rw [addb]; exact hne)).trans (h3 i u hu)⟩

/-- No kind is 0, no label is empty. -/
inductive FullT : S26 → Prop
  | mk (k n : Int) (nm : ByteArray) (ls : List ByteArray) (ar : List S26) (hk : k ≠ 0) (hs : ∀ s ∈ ls, s ≠ ⟨#[]⟩) (ha : ∀ x ∈ ar, FullT x) : FullT ⟨k, n, nm, ls, ar⟩
theorem off26 {W W' : World} {bt : Nat} (h : OffB W W' bt) (hp : Plain W bt) (x : S26) : FullT x → ∀ {cs : List Value}, k26.K W x cs → k26.K W' x cs := by
  induction x using S26.ind with
  | h k n nm ls ar ih =>
  intro hx cs hK
  cases hx with
  | mk _ _ _ _ _ hk hs ha =>
  obtain ⟨A3, c3, A4, c4, rfl, l3, g3, l4, g4⟩ := k26_open hK
  dsimp only at l3 g3 l4 g4
  refine k26_mk W' ⟨k, n, nm, ls, ar⟩ l3 (offS h hp g3 hs) l4 ?_
  dsimp only
  refine ⟨g4.1, g4.2.1, fun h0 => ?_⟩
  obtain ⟨ad, rfl, hall⟩ := g4.2.2 h0
  obtain ⟨ad', B3, d3, B4, d4, e, hc0, _⟩ := el26 g4 0 h0
  cases e
  have hne : ad.block ≠ bt := by
    have hf := ha _ (List.getElem_mem h0)
    refine hp.ne hc0 ⟨?_, by simp, by simp⟩
    intro e
    generalize ar[0] = z at hf e
    cases hf with
    | mk k' _ _ _ _ hk' _ _ => exact hk' (by simpa using e)
  refine ⟨ad, rfl, fun j p hj => ?_⟩
  obtain ⟨c, h1, h2, h3⟩ := hall j p hj
  have hm : p ∈ ar := List.mem_of_getElem? hj
  exact ⟨c, h1, ih p hm (ha p hm) h2, fun i u hu => (h.cell (a := ad.add (j * _ + i)) (by rw [addb]; exact hne)).trans (h3 i u hu)⟩
theorem RT.off {W W' : World} {bt : Nat} (h : OffB W W' bt) (hp : Plain W bt) {v : Value} {x : S26} (hx : FullT x) (hr : RT W v x) : RT W' v x := by
  obtain ⟨A3, c3, A4, c4, rfl, l3, g3, l4, g4⟩ := hr
  have := off26 h hp x hx (k26_mk W x l3 g3 l4 g4)
  obtain ⟨B3, d3, B4, d4, e, l3', g3', l4', g4'⟩ := k26_open this
  simp at e
  obtain ⟨⟨rfl, rfl⟩, rfl, rfl⟩ := e
  exact ⟨A3, c3, A4, c4, rfl, l3, g3', l4, g4'⟩
theorem offB_put5 {W : World} {g : Nat} {b0 b1 b2 b3 b4 : Value} : OffB W (((((W.setCell ⟨g, 0, none⟩ b0).setCell ⟨g, 1, none⟩ b1).setCell ⟨g, 2, none⟩ b2).setCell ⟨g, 3, none⟩ b3).setCell ⟨g, 4, none⟩ b4) g := by
  intro k hk
  have : ∀ (W : World) (i : Nat) (u : Value), (W.setCell ⟨g, i, none⟩ u).heap[k]? = W.heap[k]? := fun W i u => Below.heap_setCell W ⟨g, i, none⟩ u k hk
  rw [this, this, this, this, this]
theorem put5P {W : World} {g : Nat} {b0 b1 b2 b3 b4 : Value} (h : Plain W g) : (((((W.setCell ⟨g, 0, none⟩ b0).setCell ⟨g, 1, none⟩ b1).setCell ⟨g, 2, none⟩ b2).setCell ⟨g, 3, none⟩ b3).setCell ⟨g, 4, none⟩ b4).heap[g]? = some (.cells #[b0, b1, b2, b3, b4] 26 (0, 0)) := put5 h
end Go.Proofs.Ytkeeknlfommieaa.PF
namespace Go.Proofs.Ytkeeknlfommieaa.PF
open Go.RowKit Go.Shelf Go.Sort Go.Proofs.YtkeeknlfommieaaW.PrintWords Go.Proofs.YtkeeknlfommieaaW.PrintLast Go.Proofs.YtkeeknlfommieaaW.PrintMore

def tI : S26 := ⟨1, 0, ⟨#[]⟩, [], []⟩
def tX : S26 := ⟨6, 0, ⟨#[88]⟩, [], []⟩
def tA : S26 := ⟨8, 0, ⟨#[]⟩, [⟨#[97]⟩, ⟨#[98]⟩], [funT tX tI, tI]⟩
theorem full_awake : FullT tA := by
  have hX : FullT tX := .mk _ _ _ _ _ (by decide) (by intro s h; cases h) (by intro s h; cases h)
  have hI : FullT tI := .mk _ _ _ _ _ (by decide) (by intro s h; cases h) (by intro s h; cases h)
  refine .mk _ _ _ _ _ (by decide) (by intro s hs; simp only [List.mem_cons, List.not_mem_nil, or_false] at hs; rcases hs with rfl | rfl <;> (intro h; cases h)) ?_
  intro x hx
  simp only [List.mem_cons, List.not_mem_nil, or_false] at hx
  rcases hx with rfl | rfl
  · refine .mk _ _ _ _ _ (by decide) (by intro s h; cases h) ?_
    intro y hy
    simp only [List.mem_cons, List.not_mem_nil, or_false] at hy
    rcases hy with rfl | rfl
    · exact hX
    · exact hI
  · exact hI
theorem rec_awake : recT [⟨#[98]⟩, ⟨#[97]⟩] [tI, funT tX tI] = (tA, true) := by
  rw [recT_eq rfl [(⟨#[97]⟩, funT tX tI), (⟨#[98]⟩, tI)] (List.Perm.swap _ _ _) (by simp [key]; decide)]
  rfl
theorem field_awake : fieldT tA ⟨#[98]⟩ = (tI, true) := by
  have e : placeS ⟨#[98]⟩ tA.f3 0 = 1 := by
    simp [tA, placeS, eqB_iff]
  unfold fieldT
  rw [e]
  rfl
theorem right_awake : rightT tA = true := by rfl
theorem nodes_awake : (preT tA).length = 5 := by rfl
theorem depth_awake : depT tA = 3 := by rfl
theorem vars_awake : (sortedVars tA).length = 1 := by
  unfold sortedVars
  rw [show bl (namesL (preT tA)) = [[88]] from rfl, List.mergeSort_singleton]
  rfl
theorem has_awake : hasT tA 7 = true := by rfl
theorem cS_two {W : World} {g : Nat} {a b : ByteArray} (h0 : W.cell? ⟨g, 0, none⟩ = some (.string a)) (h1 : W.cell? ⟨g, 1, none⟩ = some (.string b)) : Kd.string.C W (some ⟨g, 0, none⟩) 2 [a, b] := by
  refine ⟨rfl, by simp, fun _ => ⟨_, rfl, fun j p hj => ?_⟩⟩
  match j, hj with
  | 0, hj => cases hj; exact ⟨_, rfl, rfl, fun i u hu => by match i, hu with | 0, hu => cases hu; rw [show (⟨g, 0, none⟩ : Addr).add (0 * Kd.string.sz + 0) = ⟨g, 0, none⟩ from add_plain g _]; exact h0⟩
  | 1, hj => cases hj; exact ⟨_, rfl, rfl, fun i u hu => by match i, hu with | 0, hu => cases hu; rw [show (⟨g, 0, none⟩ : Addr).add (1 * Kd.string.sz + 0) = ⟨g, 1, none⟩ from add_plain g _]; exact h1⟩
theorem c26_two' {W : World} {g : Nat} {a b : S26} {A3 : Option Addr} {c3 : Nat} {A4 : Option Addr} {c4 : Nat} {B3 : Option Addr} {d3 : Nat} {B4 : Option Addr} {d4 : Nat}
    (h0 : W.cell? ⟨g, 0, none⟩ = some (.int .i64 a.f0)) (h1 : W.cell? ⟨g, 1, none⟩ = some (.int .i64 a.f1)) (h2 : W.cell? ⟨g, 2, none⟩ = some (.string a.f2)) (h3 : W.cell? ⟨g, 3, none⟩ = some (.slice A3 a.f3.length c3)) (h4 : W.cell? ⟨g, 4, none⟩ = some (.slice A4 a.f4.length c4))
    (h5 : W.cell? ⟨g, 5, none⟩ = some (.int .i64 b.f0)) (h6 : W.cell? ⟨g, 6, none⟩ = some (.int .i64 b.f1)) (h7 : W.cell? ⟨g, 7, none⟩ = some (.string b.f2)) (h8 : W.cell? ⟨g, 8, none⟩ = some (.slice B3 b.f3.length d3)) (h9 : W.cell? ⟨g, 9, none⟩ = some (.slice B4 b.f4.length d4))
    (l3 : a.f3.length ≤ c3) (g3 : Kd.string.C W A3 a.f3.length a.f3) (l4 : a.f4.length ≤ c4) (g4 : k26.C W A4 a.f4.length a.f4) (m3 : b.f3.length ≤ d3) (f3 : Kd.string.C W B3 b.f3.length b.f3) (m4 : b.f4.length ≤ d4) (f4 : k26.C W B4 b.f4.length b.f4) :
    k26.C W (some ⟨g, 0, none⟩) 2 [a, b] := by
  refine ⟨rfl, by simp, fun _ => ⟨_, rfl, fun j p hj => ?_⟩⟩
  have hadd : ∀ m, (⟨g, 0, none⟩ : Addr).add m = ⟨g, m, none⟩ := fun m => add_plain g m
  match j, hj with
  | 0, hj =>
    cases hj
    refine ⟨_, rfl, k26_mk W a l3 g3 l4 g4, fun i u hu => ?_⟩
    rw [hadd]
    match i, hu with
    | 0, hu => cases hu; exact h0
    | 1, hu => cases hu; exact h1
    | 2, hu => cases hu; exact h2
    | 3, hu => cases hu; exact h3
    | 4, hu => cases hu; exact h4
  | 1, hj =>
    cases hj
    refine ⟨_, rfl, k26_mk W b m3 f3 m4 f4, fun i u hu => ?_⟩
    rw [hadd]
    match i, hu with
    | 0, hu => cases hu; exact h5
    | 1, hu => cases hu; exact h6
    | 2, hu => cases hu; exact h7
    | 3, hu => cases hu; exact h8
    | 4, hu => cases hu; exact h9

abbrev S0 (w W : World) : Prop := W.cell? ⟨w.heap.size, 0, none⟩ = some (.int .i64 1) ∧ W.cell? ⟨w.heap.size, 1, none⟩ = some (.int .i64 0) ∧ W.cell? ⟨w.heap.size, 2, none⟩ = some (.string ⟨#[]⟩) ∧ W.cell? ⟨w.heap.size, 3, none⟩ = some (.slice none 0 0) ∧ W.cell? ⟨w.heap.size, 4, none⟩ = some (.slice none 0 0) ∧ W.cell? ⟨w.heap.size + 1, 0, none⟩ = some (.int .i64 6) ∧ W.cell? ⟨w.heap.size + 1, 1, none⟩ = some (.int .i64 0) ∧ W.cell? ⟨w.heap.size + 1, 2, none⟩ = some (.string ⟨#[88]⟩) ∧ W.cell? ⟨w.heap.size + 1, 3, none⟩ = some (.slice none 0 0) ∧ W.cell? ⟨w.heap.size + 1, 4, none⟩ = some (.slice none 0 0) ∧ Below w.heap.size w W ∧ w.heap.size + 1 < W.heap.size
theorem S0.low {w W : World} (h : S0 w W) : Below w.heap.size w W := h.2.2.2.2.2.2.2.2.2.2.1
theorem S0.drew {w W : World} (h : S0 w W) : S0 w W.drew := by
  obtain ⟨a0, a1, a2, a3, a4, b0, b1, b2, b3, b4, hb, hz⟩ := h
  exact ⟨a0, a1, a2, a3, a4, b0, b1, b2, b3, b4, below_drew hb, hz⟩
theorem S0.call {w W W' : World} (h : S0 w W) (hw : Below W.heap.size W W') : S0 w W' := by
  obtain ⟨a0, a1, a2, a3, a4, b0, b1, b2, b3, b4, hb, hz⟩ := h
  have hc : ∀ b i, b ≤ w.heap.size + 1 → W'.cell? ⟨b, i, none⟩ = W.cell? ⟨b, i, none⟩ := fun b i hi => hw.cell (p := ⟨b, i, none⟩) (show b < W.heap.size by omega)
  refine ⟨?_, ?_, ?_, ?_, ?_, ?_, ?_, ?_, ?_, ?_, hb.trans (hw.mono (by omega)), Nat.lt_of_lt_of_le hz hw.size⟩ <;> (rw [hc _ _ (by omega)]; assumption)
theorem S0.alloc {w W : World} (h : S0 w W) (o : Obj) : S0 w (W.alloc o) := h.call (below_alloc (Below.refl _ _) o)
theorem S0.set {w W : World} (h : S0 w W) {g i : Nat} {u : Value} (hg : w.heap.size + 1 < g) : S0 w (W.setCell ⟨g, i, none⟩ u) := by
  obtain ⟨a0, a1, a2, a3, a4, b0, b1, b2, b3, b4, hb, hz⟩ := h
  have hc : ∀ b i', b ≤ w.heap.size + 1 → (W.setCell ⟨g, i, none⟩ u).cell? ⟨b, i', none⟩ = W.cell? ⟨b, i', none⟩ := fun b i' hi => World.cell?_of_block (Below.heap_setCell W ⟨g, i, none⟩ u b (fun e => by have e' : b = g := e; omega))
  refine ⟨?_, ?_, ?_, ?_, ?_, ?_, ?_, ?_, ?_, ?_, hb.setCell (p := ⟨g, i, none⟩) (show w.heap.size ≤ g by omega) _, by rw [World.size_setCell]; exact hz⟩ <;> (rw [hc _ _ (by omega)]; assumption)
theorem size_drew' (w : World) : w.drew.heap.size = w.heap.size := rfl
theorem blk_new' (w : World) (o : Obj) {g : Nat} (h : g = w.heap.size) : (w.alloc o).heap[g]? = some o := by rw [h]; exact blk_new w o
theorem fun_awake0 (W : World) : Calls Try.prog 44 #[.agg #[.int .i64 6, .int .i64 0, .string ⟨#[88]⟩, .slice none 0 0, .slice none 0 0], .agg #[.int .i64 1, .int .i64 0, .string ⟨#[]⟩, .slice none 0 0, .slice none 0 0]] W fun e w' => (∃ v, e = .returned v ∧ RT w' v (funT tX tI)) ∧ Below W.heap.size W w' :=
  fun_calls tX tI W none 0 none 0 none 0 none 0 (Nat.le_refl _) (Kd.C_nil _ _) (Nat.le_refl _) (Kd.C_nil _ _) (Nat.le_refl _) (Kd.C_nil _ _) (Nat.le_refl _) (Kd.C_nil _ _)
theorem fun_awake (W : World) : Calls Try.prog 44 #[.agg #[.int .i64 6, .int .i64 0, .string ⟨#[88]⟩, .slice none 0 0, .slice none 0 0], .agg #[.int .i64 1, .int .i64 0, .string ⟨#[]⟩, .slice none 0 0, .slice none 0 0]] W fun e w' => (∃ A3 c3 A4 c4, e = .returned (.agg #[.int .i64 7, .int .i64 0, .string ⟨#[]⟩, .slice A3 0 c3, .slice A4 2 c4]) ∧ Aside0 (RT w' (.agg #[.int .i64 7, .int .i64 0, .string ⟨#[]⟩, .slice A3 0 c3, .slice A4 2 c4]) (funT tX tI))) ∧ Below W.heap.size W w' := by
  refine (fun_awake0 W).mono ?_
  rintro e w' ⟨⟨v, rfl, A3, c3, A4, c4, rfl, h⟩, hb⟩
  exact ⟨⟨A3, c3, A4, c4, rfl, ⟨A3, c3, A4, c4, rfl, h⟩⟩, hb⟩
theorem rec_awake_calls {W Wf : World} {g g' c c' : Nat} {A3 : Option Addr} {c3 : Nat} {A4 : Option Addr} {c4 : Nat} (hf : RT Wf (.agg #[.int .i64 7, .int .i64 0, .string ⟨#[]⟩, .slice A3 0 c3, .slice A4 2 c4]) (funT tX tI)) (hw : Below Wf.heap.size Wf W)
    (hl : W.heap[g]? = some (.cells #[.string ⟨#[98]⟩, .string ⟨#[97]⟩] 9 (0, 0))) (ha : W.heap[g']? = some (.cells #[.int .i64 1, .int .i64 0, .string ⟨#[]⟩, .slice none 0 0, .slice none 0 0, .int .i64 7, .int .i64 0, .string ⟨#[]⟩, .slice A3 0 c3, .slice A4 2 c4] 26 (0, 0))) (hc : 2 ≤ c) (hc' : 2 ≤ c') :
    Calls Try.prog 40 #[.slice (some ⟨g, 0, none⟩) 2 c, .slice (some ⟨g', 0, none⟩) 2 c'] W fun e w' => (∃ A3 c3 A4 c4, e = .returned (.tuple #[.agg #[.int .i64 8, .int .i64 0, .string ⟨#[]⟩, .slice A3 2 c3, .slice A4 2 c4], .bool true]) ∧ RT w' (.agg #[.int .i64 8, .int .i64 0, .string ⟨#[]⟩, .slice A3 2 c3, .slice A4 2 c4]) tA) ∧ Below W.heap.size W w' := by
  obtain ⟨B3, d3, B4, d4, e, l3, g3, l4, g4⟩ := hf.below hw
  simp [funT] at e
  obtain ⟨⟨rfl, rfl⟩, rfl, rfl⟩ := e
  have := rec_calls 19 sort_small (by decide) (some ⟨g, 0, none⟩) (some ⟨g', 0, none⟩) c c' [⟨#[98]⟩, ⟨#[97]⟩] [tI, funT tX tI] W hc hc' (cS_two (blk_cell hl 0) (blk_cell hl 1))
    (c26_two' (a := tI) (b := funT tX tI) (blk_cell ha 0) (blk_cell ha 1) (blk_cell ha 2) (blk_cell ha 3) (blk_cell ha 4) (blk_cell ha 5) (blk_cell ha 6) (blk_cell ha 7) (blk_cell ha 8) (blk_cell ha 9) (Nat.le_refl _) (Kd.C_nil _ _) (Nat.le_refl _) (Kd.C_nil _ _) l3 g3 l4 g4) (by decide)
  rw [rec_awake] at this
  refine this.mono ?_
  rintro e w' ⟨⟨v, rfl, hv⟩, hb⟩
  obtain ⟨E3, e3, E4, e4, rfl, h⟩ := hv
  exact ⟨⟨E3, e3, E4, e4, rfl, E3, e3, E4, e4, rfl, h⟩, hb⟩

/-- What the program's functions answer at that record, in every world that keeps it. -/
structure Parts (W : World) (A3 : Option Addr) (c3 : Nat) (A4 : Option Addr) (c4 : Nat) : Prop where
  fld : Calls Try.prog 42 #[.agg #[.int .i64 8, .int .i64 0, .string ⟨#[]⟩, .slice A3 2 c3, .slice A4 2 c4], .string ⟨#[98]⟩] W fun e w' => (∃ B3 d3 B4 d4, e = .returned (.tuple #[.agg #[.int .i64 1, .int .i64 0, .string ⟨#[]⟩, .slice B3 0 d3, .slice B4 0 d4], .bool true])) ∧ Below W.heap.size W w'
  rgt : Calls Try.prog 26 #[.agg #[.int .i64 8, .int .i64 0, .string ⟨#[]⟩, .slice A3 2 c3, .slice A4 2 c4]] W fun e w' => e = .returned (.bool true) ∧ Below W.heap.size W w'
  nds : Calls Try.prog 27 #[.agg #[.int .i64 8, .int .i64 0, .string ⟨#[]⟩, .slice A3 2 c3, .slice A4 2 c4]] W fun e w' => e = .returned (.int .i64 5) ∧ Below W.heap.size W w'
  dep : Calls Try.prog 29 #[.agg #[.int .i64 8, .int .i64 0, .string ⟨#[]⟩, .slice A3 2 c3, .slice A4 2 c4]] W fun e w' => e = .returned (.int .i64 3) ∧ Below W.heap.size W w'
  vrs : Calls Try.prog 33 #[.agg #[.int .i64 8, .int .i64 0, .string ⟨#[]⟩, .slice A3 2 c3, .slice A4 2 c4]] W fun e w' => (∃ A c, e = .returned (.slice A 1 c)) ∧ Below W.heap.size W w'
  fit : Calls Try.prog 35 #[.agg #[.int .i64 8, .int .i64 0, .string ⟨#[]⟩, .slice A3 2 c3, .slice A4 2 c4]] W fun e w' => e = .returned (.bool true) ∧ Below W.heap.size W w'
  sme : Calls Try.prog 37 #[.agg #[.int .i64 8, .int .i64 0, .string ⟨#[]⟩, .slice A3 2 c3, .slice A4 2 c4], .agg #[.int .i64 8, .int .i64 0, .string ⟨#[]⟩, .slice A3 2 c3, .slice A4 2 c4]] W fun e w' => e = .returned (.bool true) ∧ Below W.heap.size W w'
  has : Calls Try.prog 31 #[.agg #[.int .i64 8, .int .i64 0, .string ⟨#[]⟩, .slice A3 2 c3, .slice A4 2 c4], .int .i64 7] W fun e w' => e = .returned (.bool true) ∧ Below W.heap.size W w'
theorem parts_of {W : World} {A3 : Option Addr} {c3 : Nat} {A4 : Option Addr} {c4 : Nat} (h : RT W (.agg #[.int .i64 8, .int .i64 0, .string ⟨#[]⟩, .slice A3 2 c3, .slice A4 2 c4]) tA) : Parts W A3 c3 A4 c4 := by
  obtain ⟨B3, d3, B4, d4, e, l3, g3, l4, g4⟩ := h
  simp [tA] at e
  obtain ⟨⟨rfl, rfl⟩, rfl, rfl⟩ := e
  refine ⟨?_, ?_, ?_, ?_, ?_, ?_, ?_, ?_⟩
  · have h := field_calls tA ⟨#[98]⟩ W A3 c3 A4 c4 l3 g3 g4
    rw [field_awake] at h
    refine h.mono ?_
    rintro e w' ⟨⟨v, rfl, E3, e3, E4, e4, rfl, _⟩, hb⟩
    exact ⟨⟨E3, e3, E4, e4, rfl⟩, hb⟩
  · have h := right_calls tA W A3 c3 A4 c4 l3 g3 l4 g4
    rw [right_awake] at h
    exact h
  · have h := nodes_calls tA W A3 c3 A4 c4 g4 (by decide)
    rw [nodes_awake] at h
    exact h
  · have h := depth_calls tA (by decide) W A3 c3 A4 c4 l3 g3 l4 g4
    rw [depth_awake] at h
    exact h
  · have h := vars_calls tA W A3 c3 A4 c4 g4 (by decide)
    rw [vars_awake] at h
    refine h.mono ?_
    rintro e w' ⟨⟨A, c, rfl, _⟩, hb⟩
    exact ⟨⟨A, c, rfl⟩, hb⟩
  · have h := fits_calls tA W A3 c3 A4 c4 g4
    rw [show decide ((preT tA).length ≤ 300) = true by decide] at h
    exact h
  · have h := same_calls tA tA W A3 c3 A4 c4 A3 c3 A4 c4 l3 g3 l4 g4 l3 g3 l4 g4
    rw [eqB_self] at h
    exact h
  · have h := has_calls tA 7 W A3 c3 A4 c4 g4
    rw [has_awake] at h
    exact h
theorem tcells {wc W : World} {bt : Nat} {A3 : Option Addr} {c3 : Nat} {A4 : Option Addr} {c4 : Nat} (h : wc.heap[bt]? = some (.cells #[.int .i64 8, .int .i64 0, .string ⟨#[]⟩, .slice A3 2 c3, .slice A4 2 c4] 26 (0, 0))) (hb : Below wc.heap.size wc W) :
    W.cell? ⟨bt, 0, none⟩ = some (.int .i64 8) ∧ W.cell? ⟨bt, 1, none⟩ = some (.int .i64 0) ∧ W.cell? ⟨bt, 2, none⟩ = some (.string ⟨#[]⟩) ∧ W.cell? ⟨bt, 3, none⟩ = some (.slice A3 2 c3) ∧ W.cell? ⟨bt, 4, none⟩ = some (.slice A4 2 c4) := by
  have h' := blk_below h hb
  exact ⟨blk_cell h' 0, blk_cell h' 1, blk_cell h' 2, blk_cell h' 3, blk_cell h' 4⟩
set_option maxRecDepth 100000 in
set_option maxHeartbeats 40000000 in
theorem awake_calls (w : World) : Calls Try.prog 25 #[] w fun e w' => e = .returned (.bool true) ∧ Below w.heap.size w w' := by
  go_enter Try.func25, Try.ntmps25
  go_upto_region 3 with (fail)
  go_cut [3, 4] (fun v3 v4 wc => ∃ (bt : Nat) (A3 : Option Addr) (c3 : Nat) (A4 : Option Addr) (c4 : Nat), v3 = .pointer (some ⟨bt, 0, none⟩) ∧ v4 = .bool true ∧ Aside0 (wc.heap[bt]? = some (.cells #[.int .i64 8, .int .i64 0, .string ⟨#[]⟩, .slice A3 2 c3, .slice A4 2 c4] 26 (0, 0))) ∧ Aside0 (RT wc (.agg #[.int .i64 8, .int .i64 0, .string ⟨#[]⟩, .slice A3 2 c3, .slice A4 2 c4]) tA) ∧ Aside0 (Below w.heap.size w wc))
  case first =>
    have hS : S0 w ((w.alloc (.cells #[.int .i64 1, .int .i64 0, .string ⟨#[]⟩, .slice none 0 0, .slice none 0 0] 26)).alloc (.cells #[.int .i64 6, .int .i64 0, .string ⟨#[88]⟩, .slice none 0 0, .slice none 0 0] 26)) := by
      refine ⟨?_, ?_, ?_, ?_, ?_, ?_, ?_, ?_, ?_, ?_, below_alloc (below_alloc (Below.refl _ _) _) _, by simp⟩ <;> (simp; done)
    generalize (w.alloc (.cells #[.int .i64 1, .int .i64 0, .string ⟨#[]⟩, .slice none 0 0, .slice none 0 0] 26)).alloc (.cells #[.int .i64 6, .int .i64 0, .string ⟨#[88]⟩, .slice none 0 0, .slice none 0 0] 26) = W0 at *
    have hz0 : w.heap.size + 1 < W0.heap.size := hS.2.2.2.2.2.2.2.2.2.2.2
    rename_i Q0 K0 hrest J0 K1 hJ hM
    clear hrest
    refine start_ (n := 13) (S := S0 w) (ds := [11]) #[false, false, false, false, false, false, false, false, false, false, false, false, false] (by kernel_rfl) rfl rfl hS.drew (fun hHeld => ?_)
    obtain ⟨wd, hwd⟩ : ∃ x, x = W0.drew := ⟨_, rfl⟩
    rw [← hwd] at hHeld ⊢
    clear hwd hS hz0
    refine take_ (i := 1) (N := some 11) (v := ?_) (a' := ?_) #[false, true, false, false, false, false, false, false, false, false, false, false, false] rfl rfl (by kernel_rfl) (fun _ _ _ h => h) (Or.inl ⟨by rfl, ?_⟩) hHeld ?_ ?_
    rotate_left
    · rintro w' ⟨s0, s1, s2, s3, s4, s5, s6, s7, s8, s9, _⟩
      go_simp
      with_reducible rfl
    rotate_left
    · simp only [putAll, Act.put, List.setIfInBounds_toArray, List.set_cons_zero, List.set_cons_succ]
      rfl
    refine take_ (i := 2) (N := some 12) (v := ?_) (a' := ?_) #[false, true, true, false, false, false, false, false, false, false, false, false, false] rfl rfl (by kernel_rfl) (fun _ _ _ h => h) (Or.inl ⟨by rfl, ?_⟩) hHeld ?_ ?_
    rotate_left
    · rintro w' ⟨s0, s1, s2, s3, s4, s5, s6, s7, s8, s9, _⟩
      go_simp
      with_reducible rfl
    rotate_left
    · simp only [putAll, Act.put, List.setIfInBounds_toArray, List.set_cons_zero, List.set_cons_succ]
      rfl
    refine take_ (i := 3) (N := some 13) (v := ?_) (a' := ?_) #[false, true, true, true, false, false, false, false, false, false, false, false, false] rfl rfl (by kernel_rfl) (fun _ _ _ h => h) (Or.inl ⟨by rfl, ?_⟩) hHeld ?_ ?_
    rotate_left
    · rintro w' ⟨s0, s1, s2, s3, s4, s5, s6, s7, s8, s9, _⟩
      go_simp
      with_reducible rfl
    rotate_left
    · simp only [putAll, Act.put, List.setIfInBounds_toArray, List.set_cons_zero, List.set_cons_succ]
      rfl
    refine join_ (σ := Nat × Nat × Nat × Option Addr × Nat × Option Addr × Nat × Option Addr × Nat × Option Addr × Nat) 2 #[true, true, true, true, true, true, true, true, true, true, true, false, false] (fun s_ => [(10, .slice (some ⟨s_.1, 0, none⟩) 2 2), (3, .pointer (some ⟨s_.2.1, 0, none⟩)), (14, Value.agg #[.int .i64 7, .int .i64 0, .string ⟨#[]⟩, .slice s_.2.2.2.1 0 s_.2.2.2.2.1, .slice s_.2.2.2.2.2.1 2 s_.2.2.2.2.2.2.1]), (15, .slice (some ⟨s_.2.2.1, 0, none⟩) 2 2), (16, .tuple #[Value.agg #[.int .i64 8, .int .i64 0, .string ⟨#[]⟩, .slice s_.2.2.2.2.2.2.2.1 2 s_.2.2.2.2.2.2.2.2.1, .slice s_.2.2.2.2.2.2.2.2.2.1 2 s_.2.2.2.2.2.2.2.2.2.2], .bool true]), (9, .tuple #[Value.agg #[.int .i64 8, .int .i64 0, .string ⟨#[]⟩, .slice s_.2.2.2.2.2.2.2.1 2 s_.2.2.2.2.2.2.2.2.1, .slice s_.2.2.2.2.2.2.2.2.2.1 2 s_.2.2.2.2.2.2.2.2.2.2], .bool true]), (17, Value.agg #[.int .i64 8, .int .i64 0, .string ⟨#[]⟩, .slice s_.2.2.2.2.2.2.2.1 2 s_.2.2.2.2.2.2.2.2.1, .slice s_.2.2.2.2.2.2.2.2.2.1 2 s_.2.2.2.2.2.2.2.2.2.2]), (18, .bool true)]) (fun s_ w' => S0 w w' ∧ w'.heap[s_.1]? = some (Obj.cells #[.string ⟨#[98]⟩, .string ⟨#[97]⟩] 9 (0, 0)) ∧ (Plain w' s_.2.1 ∧ w.heap.size ≤ s_.2.1) ∧ RT w' (Value.agg #[.int .i64 8, .int .i64 0, .string ⟨#[]⟩, .slice s_.2.2.2.2.2.2.2.1 2 s_.2.2.2.2.2.2.2.2.1, .slice s_.2.2.2.2.2.2.2.2.2.1 2 s_.2.2.2.2.2.2.2.2.2.2]) tA) ?_ ?_
    · skip
      rintro ⟨gl, bt, gr, A3, c3, A4, c4, E3, e3, E4, e4⟩ wj hj
      obtain ⟨hHeld, hgl, ⟨hpl, hpb⟩, hra⟩ := hj
      dsimp only at hgl hpl hpb hra
      have HGL := Aside0.mk hgl
      have HPL := Aside0.mk hpl
      have HPB := Aside0.mk hpb
      have HRA := Aside0.mk hra
      clear hgl hpl hpb hra
      refine norm_ (a' := ?_) ?_ ?_
      rotate_left
      · simp only [putAll, Act.put, List.setIfInBounds_toArray, List.set_cons_zero, List.set_cons_succ]
        rfl
      refine last_ (i := 11) (N := none) #[true, true, true, true, true, true, true, true, true, true, true, true, false] rfl rfl (by kernel_rfl) (by decide) (fun K hK => ?_)
      have p0 := blk_cell (show wj.heap[bt]? = _ from HPL.out) 0
      have p1 := blk_cell (show wj.heap[bt]? = _ from HPL.out) 1
      have p2 := blk_cell (show wj.heap[bt]? = _ from HPL.out) 2
      have p3 := blk_cell (show wj.heap[bt]? = _ from HPL.out) 3
      have p4 := blk_cell (show wj.heap[bt]? = _ from HPL.out) 4
      have pz := fun i => blk_frozen (show wj.heap[bt]? = _ from HPL.out) i
      simp at p0 p1 p2 p3 p4
      go_simp
      refine hK.out _ _ ?_
      clear hK K p0 p1 p2 p3 p4 pz
      refine pure_ (i := 12) (N := some 4) (v := ?_) (a' := ?_) #[true, true, true, true, true, true, true, true, true, true, true, true, true] rfl rfl (by kernel_rfl) (fun _ _ _ h => h) (Or.inl ⟨by rfl, ?_⟩) ?_ ?_
      rotate_left
      · intro w'
        go_simp
        with_reducible rfl
      rotate_left
      · simp only [putAll, Act.put, List.setIfInBounds_toArray, List.set_cons_zero, List.set_cons_succ]
        rfl
      refine done_ (by kernel_rfl) ?_
      go_wp2_with fail
      all_goals
        go_meet
        case rel => exact ⟨bt, E3, e3, E4, e4, rfl, rfl, ⟨put5P HPL.out⟩, ⟨HRA.out.off offB_put5 HPL.out full_awake⟩, ⟨below5 hHeld.low HPB.out⟩⟩
    intro hC113
    refine join_ (σ := Nat × Nat × Nat × Option Addr × Nat × Option Addr × Nat × Option Addr × Nat × Option Addr × Nat) 3 #[true, true, true, true, true, true, true, true, true, true, false, false, false] (fun s_ => [(10, .slice (some ⟨s_.1, 0, none⟩) 2 2), (14, Value.agg #[.int .i64 7, .int .i64 0, .string ⟨#[]⟩, .slice s_.2.2.2.1 0 s_.2.2.2.2.1, .slice s_.2.2.2.2.2.1 2 s_.2.2.2.2.2.2.1]), (15, .slice (some ⟨s_.2.2.1, 0, none⟩) 2 2), (16, .tuple #[Value.agg #[.int .i64 8, .int .i64 0, .string ⟨#[]⟩, .slice s_.2.2.2.2.2.2.2.1 2 s_.2.2.2.2.2.2.2.2.1, .slice s_.2.2.2.2.2.2.2.2.2.1 2 s_.2.2.2.2.2.2.2.2.2.2], .bool true]), (9, .tuple #[Value.agg #[.int .i64 8, .int .i64 0, .string ⟨#[]⟩, .slice s_.2.2.2.2.2.2.2.1 2 s_.2.2.2.2.2.2.2.2.1, .slice s_.2.2.2.2.2.2.2.2.2.1 2 s_.2.2.2.2.2.2.2.2.2.2], .bool true]), (17, Value.agg #[.int .i64 8, .int .i64 0, .string ⟨#[]⟩, .slice s_.2.2.2.2.2.2.2.1 2 s_.2.2.2.2.2.2.2.2.1, .slice s_.2.2.2.2.2.2.2.2.2.1 2 s_.2.2.2.2.2.2.2.2.2.2]), (18, .bool true)]) (fun s_ w' => S0 w w' ∧ w'.heap[s_.1]? = some (Obj.cells #[.string ⟨#[98]⟩, .string ⟨#[97]⟩] 9 (0, 0)) ∧ RT w' (Value.agg #[.int .i64 8, .int .i64 0, .string ⟨#[]⟩, .slice s_.2.2.2.2.2.2.2.1 2 s_.2.2.2.2.2.2.2.2.1, .slice s_.2.2.2.2.2.2.2.2.2.1 2 s_.2.2.2.2.2.2.2.2.2.2]) tA) ?_ ?_
    · skip
      rintro ⟨gl, bt, gr, A3, c3, A4, c4, E3, e3, E4, e4⟩ wj hj
      obtain ⟨hHeld, hgl, hra⟩ := hj
      dsimp only at hgl hra
      have HGL := Aside0.mk hgl
      have HRA := Aside0.mk hra
      clear hgl hra
      refine norm_ (a' := ?_) ?_ ?_
      rotate_left
      · simp only [putAll, Act.put, List.setIfInBounds_toArray, List.set_cons_zero, List.set_cons_succ]
        rfl
      refine one_ (i := 10) (N := some 3) #[true, true, true, true, true, true, true, true, true, true, true, false, false] rfl rfl (by kernel_rfl) (by decide) (fun K hK => ?_)
      have hbt := hHeld.2.2.2.2.2.2.2.2.2.2.2
      go_simp
      refine hK.out _ _ (hHeld.alloc _) (fun hHeld => ?_)
      clear hK K
      exact norm_ (by simp only [putAll, Act.put, List.setIfInBounds_toArray, List.set_cons_zero, List.set_cons_succ]) (hC113 (gl, wj.heap.size, gr, A3, c3, A4, c4, E3, e3, E4, e4) _ ⟨hHeld, blk_alloc HGL.out _, ⟨blk_newR _ _ rfl, Nat.le_of_lt (Nat.lt_of_succ_lt hbt)⟩, RT.below HRA.out (below_alloc (Below.refl _ _) _)⟩)
    intro hC103
    refine join_ (σ := Nat × Nat × Nat × Option Addr × Nat × Option Addr × Nat × Option Addr × Nat × Option Addr × Nat) 6 #[true, true, true, true, true, true, false, false, false, false, true, false, false] (fun s_ => [(10, .slice (some ⟨s_.1, 0, none⟩) 2 2), (3, .pointer (some ⟨s_.2.1, 0, none⟩)), (14, Value.agg #[.int .i64 7, .int .i64 0, .string ⟨#[]⟩, .slice s_.2.2.2.1 0 s_.2.2.2.2.1, .slice s_.2.2.2.2.2.1 2 s_.2.2.2.2.2.2.1]), (15, .slice (some ⟨s_.2.2.1, 0, none⟩) 2 2)]) (fun s_ w' => S0 w w' ∧ w'.heap[s_.1]? = some (Obj.cells #[.string ⟨#[98]⟩, .string ⟨#[97]⟩] 9 (0, 0)) ∧ (Plain w' s_.2.1 ∧ w.heap.size ≤ s_.2.1) ∧ RT w' (Value.agg #[.int .i64 7, .int .i64 0, .string ⟨#[]⟩, .slice s_.2.2.2.1 0 s_.2.2.2.2.1, .slice s_.2.2.2.2.2.1 2 s_.2.2.2.2.2.2.1]) (funT tX tI) ∧ w'.heap[s_.2.2.1]? = some (Obj.cells #[.int .i64 1, .int .i64 0, .string ⟨#[]⟩, .slice none 0 0, .slice none 0 0, .int .i64 7, .int .i64 0, .string ⟨#[]⟩, .slice s_.2.2.2.1 0 s_.2.2.2.2.1, .slice s_.2.2.2.2.2.1 2 s_.2.2.2.2.2.2.1] 26 (0, 0))) ?_ ?_
    · skip
      rintro ⟨gl, bt, gr, A3, c3, A4, c4, E3, e3, E4, e4⟩ wj hj
      obtain ⟨hHeld, hgl, ⟨hpl, hpb⟩, hrt, hgr⟩ := hj
      dsimp only at hgl hpl hpb hrt hgr
      have HGL := Aside0.mk hgl
      have HPL := Aside0.mk hpl
      have HPB := Aside0.mk hpb
      have HRT := Aside0.mk hrt
      have HGR := Aside0.mk hgr
      clear hgl hpl hpb hrt hgr
      refine norm_ (a' := ?_) ?_ ?_
      rotate_left
      · simp only [putAll, Act.put, List.setIfInBounds_toArray, List.set_cons_zero, List.set_cons_succ]
        rfl
      refine one_ (i := 6) (N := some 16) #[true, true, true, true, true, true, true, false, false, false, true, false, false] rfl rfl (by kernel_rfl) (by decide) (fun K hK => ?_)
      refine goes_ Try.func40 (by kernel_rfl) rfl #[.slice (some ⟨gl, 0, none⟩) 2 2, .slice (some ⟨gr, 0, none⟩) 2 2] (by rfl) rfl rfl (by (try simp only [List.map_toArray, List.map_cons, List.map_nil]); first | done | rfl) ?_
      with_reducible refine (rec_awake_calls HRT.out (Below.refl _ _) HGL.out HGR.out (Nat.le_refl _) (Nat.le_refl _)).mono ?_
      rintro e wr ⟨⟨E3, e3, E4, e4, rfl, hvr⟩, hbr⟩
      refine ⟨_, rfl, ?_⟩
      refine hK.out _ _ (hHeld.call hbr) (fun hHeld => ?_)
      clear hK K
      refine norm_ (a' := ?_) ?_ ?_
      rotate_left
      · show Act.put _ (some 16) _ = _
        simp only [putAll, Act.put, List.setIfInBounds_toArray, List.set_cons_zero, List.set_cons_succ]
        rfl
      refine pure_ (i := 7) (N := some 9) (v := ?_) (a' := ?_) #[true, true, true, true, true, true, true, true, false, false, true, false, false] rfl rfl (by kernel_rfl) (fun _ _ _ h => h) (Or.inl ⟨by rfl, ?_⟩) ?_ ?_
      rotate_left
      · intro w'
        go_simp
        with_reducible rfl
      rotate_left
      · simp only [putAll, Act.put, List.setIfInBounds_toArray, List.set_cons_zero, List.set_cons_succ]
        rfl
      refine pure_ (i := 8) (N := some 17) (v := ?_) (a' := ?_) #[true, true, true, true, true, true, true, true, true, false, true, false, false] rfl rfl (by kernel_rfl) (fun _ _ _ h => h) (Or.inl ⟨by rfl, ?_⟩) ?_ ?_
      rotate_left
      · intro w'
        go_simp
        with_reducible rfl
      rotate_left
      · simp only [putAll, Act.put, List.setIfInBounds_toArray, List.set_cons_zero, List.set_cons_succ]
        rfl
      refine pure_ (i := 9) (N := some 18) (v := ?_) (a' := ?_) #[true, true, true, true, true, true, true, true, true, true, true, false, false] rfl rfl (by kernel_rfl) (fun _ _ _ h => h) (Or.inl ⟨by rfl, ?_⟩) ?_ ?_
      rotate_left
      · intro w'
        go_simp
        with_reducible rfl
      rotate_left
      · simp only [putAll, Act.put, List.setIfInBounds_toArray, List.set_cons_zero, List.set_cons_succ]
        rfl
      exact norm_ (by simp only [putAll, Act.put, List.setIfInBounds_toArray, List.set_cons_zero, List.set_cons_succ]) (hC113 (gl, bt, gr, A3, c3, A4, c4, E3, e3, E4, e4) _ ⟨hHeld, blk_below HGL.out hbr, ⟨blk_below HPL.out hbr, HPB.out⟩, hvr⟩)
    intro hC112
    refine join_ (σ := Nat × Nat × Nat × Option Addr × Nat × Option Addr × Nat × Option Addr × Nat × Option Addr × Nat) 7 #[true, true, true, true, true, false, false, false, false, false, true, false, false] (fun s_ => [(10, .slice (some ⟨s_.1, 0, none⟩) 2 2), (3, .pointer (some ⟨s_.2.1, 0, none⟩)), (14, Value.agg #[.int .i64 7, .int .i64 0, .string ⟨#[]⟩, .slice s_.2.2.2.1 0 s_.2.2.2.2.1, .slice s_.2.2.2.2.2.1 2 s_.2.2.2.2.2.2.1])]) (fun s_ w' => S0 w w' ∧ w'.heap[s_.1]? = some (Obj.cells #[.string ⟨#[98]⟩, .string ⟨#[97]⟩] 9 (0, 0)) ∧ (Plain w' s_.2.1 ∧ w.heap.size ≤ s_.2.1) ∧ RT w' (Value.agg #[.int .i64 7, .int .i64 0, .string ⟨#[]⟩, .slice s_.2.2.2.1 0 s_.2.2.2.2.1, .slice s_.2.2.2.2.2.1 2 s_.2.2.2.2.2.2.1]) (funT tX tI)) ?_ ?_
    · skip
      rintro ⟨gl, bt, gr, A3, c3, A4, c4, E3, e3, E4, e4⟩ wj hj
      obtain ⟨hHeld, hgl, ⟨hpl, hpb⟩, hrt⟩ := hj
      dsimp only at hgl hpl hpb hrt
      have HGL := Aside0.mk hgl
      have HPL := Aside0.mk hpl
      have HPB := Aside0.mk hpb
      have HRT := Aside0.mk hrt
      clear hgl hpl hpb hrt
      refine norm_ (a' := ?_) ?_ ?_
      rotate_left
      · simp only [putAll, Act.put, List.setIfInBounds_toArray, List.set_cons_zero, List.set_cons_succ]
        rfl
      refine one_ (i := 5) (N := some 15) #[true, true, true, true, true, true, false, false, false, false, true, false, false] rfl rfl (by kernel_rfl) (by decide) (fun K hK => ?_)
      go_simp
      refine hK.out _ _ (hHeld.alloc _) (fun hHeld => ?_)
      clear hK K
      exact norm_ (by simp only [putAll, Act.put, List.setIfInBounds_toArray, List.set_cons_zero, List.set_cons_succ]) (hC112 (gl, bt, wj.heap.size, A3, c3, A4, c4, none, 0, none, 0) _ ⟨hHeld, blk_alloc HGL.out _, ⟨blk_alloc HPL.out _, HPB.out⟩, RT.below HRT.out (below_alloc (Below.refl _ _) _), blk_newR _ _ rfl⟩)
    intro hC111
    refine join_ (σ := Nat × Nat × Nat × Option Addr × Nat × Option Addr × Nat × Option Addr × Nat × Option Addr × Nat) 7 #[false, true, true, true, true, true, false, false, false, false, true, false, false] (fun s_ => [(3, .pointer (some ⟨s_.2.1, 0, none⟩)), (14, Value.agg #[.int .i64 7, .int .i64 0, .string ⟨#[]⟩, .slice s_.2.2.2.1 0 s_.2.2.2.2.1, .slice s_.2.2.2.2.2.1 2 s_.2.2.2.2.2.2.1]), (15, .slice (some ⟨s_.2.2.1, 0, none⟩) 2 2)]) (fun s_ w' => S0 w w' ∧ (Plain w' s_.2.1 ∧ w.heap.size ≤ s_.2.1) ∧ RT w' (Value.agg #[.int .i64 7, .int .i64 0, .string ⟨#[]⟩, .slice s_.2.2.2.1 0 s_.2.2.2.2.1, .slice s_.2.2.2.2.2.1 2 s_.2.2.2.2.2.2.1]) (funT tX tI) ∧ w'.heap[s_.2.2.1]? = some (Obj.cells #[.int .i64 1, .int .i64 0, .string ⟨#[]⟩, .slice none 0 0, .slice none 0 0, .int .i64 7, .int .i64 0, .string ⟨#[]⟩, .slice s_.2.2.2.1 0 s_.2.2.2.2.1, .slice s_.2.2.2.2.2.1 2 s_.2.2.2.2.2.2.1] 26 (0, 0))) ?_ ?_
    · skip
      rintro ⟨gl, bt, gr, A3, c3, A4, c4, E3, e3, E4, e4⟩ wj hj
      obtain ⟨hHeld, ⟨hpl, hpb⟩, hrt, hgr⟩ := hj
      dsimp only at hpl hpb hrt hgr
      have HPL := Aside0.mk hpl
      have HPB := Aside0.mk hpb
      have HRT := Aside0.mk hrt
      have HGR := Aside0.mk hgr
      clear hpl hpb hrt hgr
      refine norm_ (a' := ?_) ?_ ?_
      rotate_left
      · simp only [putAll, Act.put, List.setIfInBounds_toArray, List.set_cons_zero, List.set_cons_succ]
        rfl
      refine one_ (i := 0) (N := some 10) #[true, true, true, true, true, true, false, false, false, false, true, false, false] rfl rfl (by kernel_rfl) (by decide) (fun K hK => ?_)
      go_simp
      refine hK.out _ _ (hHeld.alloc _) (fun hHeld => ?_)
      clear hK K
      exact norm_ (by simp only [putAll, Act.put, List.setIfInBounds_toArray, List.set_cons_zero, List.set_cons_succ]) (hC112 (wj.heap.size, bt, gr, A3, c3, A4, c4, none, 0, none, 0) _ ⟨hHeld, blk_newR _ _ rfl, ⟨blk_alloc HPL.out _, HPB.out⟩, RT.below HRT.out (below_alloc (Below.refl _ _) _), blk_alloc HGR.out _⟩)
    intro hC012
    refine join_ (σ := Nat × Nat × Nat × Option Addr × Nat × Option Addr × Nat × Option Addr × Nat × Option Addr × Nat) 7 #[true, true, true, true, true, true, false, false, false, false, false, false, false] (fun s_ => [(10, .slice (some ⟨s_.1, 0, none⟩) 2 2), (14, Value.agg #[.int .i64 7, .int .i64 0, .string ⟨#[]⟩, .slice s_.2.2.2.1 0 s_.2.2.2.2.1, .slice s_.2.2.2.2.2.1 2 s_.2.2.2.2.2.2.1]), (15, .slice (some ⟨s_.2.2.1, 0, none⟩) 2 2)]) (fun s_ w' => S0 w w' ∧ w'.heap[s_.1]? = some (Obj.cells #[.string ⟨#[98]⟩, .string ⟨#[97]⟩] 9 (0, 0)) ∧ RT w' (Value.agg #[.int .i64 7, .int .i64 0, .string ⟨#[]⟩, .slice s_.2.2.2.1 0 s_.2.2.2.2.1, .slice s_.2.2.2.2.2.1 2 s_.2.2.2.2.2.2.1]) (funT tX tI) ∧ w'.heap[s_.2.2.1]? = some (Obj.cells #[.int .i64 1, .int .i64 0, .string ⟨#[]⟩, .slice none 0 0, .slice none 0 0, .int .i64 7, .int .i64 0, .string ⟨#[]⟩, .slice s_.2.2.2.1 0 s_.2.2.2.2.1, .slice s_.2.2.2.2.2.1 2 s_.2.2.2.2.2.2.1] 26 (0, 0))) ?_ ?_
    · skip
      rintro ⟨gl, bt, gr, A3, c3, A4, c4, E3, e3, E4, e4⟩ wj hj
      obtain ⟨hHeld, hgl, hrt, hgr⟩ := hj
      dsimp only at hgl hrt hgr
      have HGL := Aside0.mk hgl
      have HRT := Aside0.mk hrt
      have HGR := Aside0.mk hgr
      clear hgl hrt hgr
      refine norm_ (a' := ?_) ?_ ?_
      rotate_left
      · simp only [putAll, Act.put, List.setIfInBounds_toArray, List.set_cons_zero, List.set_cons_succ]
        rfl
      refine two_ (i := 6) (j := 10) (Ni := some 16) (Nj := some 3) #[true, true, true, true, true, true, true, false, false, false, false, false, false] #[true, true, true, true, true, true, false, false, false, false, true, false, false] rfl rfl rfl rfl (by kernel_rfl) (by decide) (by decide) (fun K hK => ?_) (fun K hK => ?_)
      · skip
        refine goes_ Try.func40 (by kernel_rfl) rfl #[.slice (some ⟨gl, 0, none⟩) 2 2, .slice (some ⟨gr, 0, none⟩) 2 2] (by rfl) rfl rfl (by (try simp only [List.map_toArray, List.map_cons, List.map_nil]); first | done | rfl) ?_
        with_reducible refine (rec_awake_calls HRT.out (Below.refl _ _) HGL.out HGR.out (Nat.le_refl _) (Nat.le_refl _)).mono ?_
        rintro e wr ⟨⟨E3, e3, E4, e4, rfl, hvr⟩, hbr⟩
        refine ⟨_, rfl, ?_⟩
        refine hK.out _ _ (hHeld.call hbr) (fun hHeld => ?_)
        clear hK K
        refine norm_ (a' := ?_) ?_ ?_
        rotate_left
        · show Act.put _ (some 16) _ = _
          simp only [putAll, Act.put, List.setIfInBounds_toArray, List.set_cons_zero, List.set_cons_succ]
          rfl
        refine pure_ (i := 7) (N := some 9) (v := ?_) (a' := ?_) #[true, true, true, true, true, true, true, true, false, false, false, false, false] rfl rfl (by kernel_rfl) (fun _ _ _ h => h) (Or.inl ⟨by rfl, ?_⟩) ?_ ?_
        rotate_left
        · intro w'
          go_simp
          with_reducible rfl
        rotate_left
        · simp only [putAll, Act.put, List.setIfInBounds_toArray, List.set_cons_zero, List.set_cons_succ]
          rfl
        refine pure_ (i := 8) (N := some 17) (v := ?_) (a' := ?_) #[true, true, true, true, true, true, true, true, true, false, false, false, false] rfl rfl (by kernel_rfl) (fun _ _ _ h => h) (Or.inl ⟨by rfl, ?_⟩) ?_ ?_
        rotate_left
        · intro w'
          go_simp
          with_reducible rfl
        rotate_left
        · simp only [putAll, Act.put, List.setIfInBounds_toArray, List.set_cons_zero, List.set_cons_succ]
          rfl
        refine pure_ (i := 9) (N := some 18) (v := ?_) (a' := ?_) #[true, true, true, true, true, true, true, true, true, true, false, false, false] rfl rfl (by kernel_rfl) (fun _ _ _ h => h) (Or.inl ⟨by rfl, ?_⟩) ?_ ?_
        rotate_left
        · intro w'
          go_simp
          with_reducible rfl
        rotate_left
        · simp only [putAll, Act.put, List.setIfInBounds_toArray, List.set_cons_zero, List.set_cons_succ]
          rfl
        exact norm_ (by simp only [putAll, Act.put, List.setIfInBounds_toArray, List.set_cons_zero, List.set_cons_succ]) (hC103 (gl, 0, gr, A3, c3, A4, c4, E3, e3, E4, e4) _ ⟨hHeld, blk_below HGL.out hbr, hvr⟩)
      · skip
        have hbt := hHeld.2.2.2.2.2.2.2.2.2.2.2
        go_simp
        refine hK.out _ _ (hHeld.alloc _) (fun hHeld => ?_)
        clear hK K
        exact norm_ (by simp only [putAll, Act.put, List.setIfInBounds_toArray, List.set_cons_zero, List.set_cons_succ]) (hC112 (gl, wj.heap.size, gr, A3, c3, A4, c4, none, 0, none, 0) _ ⟨hHeld, blk_alloc HGL.out _, ⟨blk_newR _ _ rfl, Nat.le_of_lt (Nat.lt_of_succ_lt hbt)⟩, RT.below HRT.out (below_alloc (Below.refl _ _) _), blk_alloc HGR.out _⟩)
    intro hC102
    refine join_ (σ := Nat × Nat × Nat × Option Addr × Nat × Option Addr × Nat × Option Addr × Nat × Option Addr × Nat) 8 #[true, true, true, true, false, false, false, false, false, false, true, false, false] (fun s_ => [(10, .slice (some ⟨s_.1, 0, none⟩) 2 2), (3, .pointer (some ⟨s_.2.1, 0, none⟩))]) (fun s_ w' => S0 w w' ∧ w'.heap[s_.1]? = some (Obj.cells #[.string ⟨#[98]⟩, .string ⟨#[97]⟩] 9 (0, 0)) ∧ (Plain w' s_.2.1 ∧ w.heap.size ≤ s_.2.1)) ?_ ?_
    · skip
      rintro ⟨gl, bt, gr, A3, c3, A4, c4, E3, e3, E4, e4⟩ wj hj
      obtain ⟨hHeld, hgl, ⟨hpl, hpb⟩⟩ := hj
      dsimp only at hgl hpl hpb
      have HGL := Aside0.mk hgl
      have HPL := Aside0.mk hpl
      have HPB := Aside0.mk hpb
      clear hgl hpl hpb
      refine norm_ (a' := ?_) ?_ ?_
      rotate_left
      · simp only [putAll, Act.put, List.setIfInBounds_toArray, List.set_cons_zero, List.set_cons_succ]
        rfl
      refine one_ (i := 4) (N := some 14) #[true, true, true, true, true, false, false, false, false, false, true, false, false] rfl rfl (by kernel_rfl) (by decide) (fun K hK => ?_)
      refine goes_ Try.func44 (by kernel_rfl) rfl #[.agg #[.int .i64 6, .int .i64 0, .string ⟨#[88]⟩, .slice none 0 0, .slice none 0 0], .agg #[.int .i64 1, .int .i64 0, .string ⟨#[]⟩, .slice none 0 0, .slice none 0 0]] (by rfl) rfl rfl (by (try simp only [List.map_toArray, List.map_cons, List.map_nil]); first | done | rfl) ?_
      with_reducible refine (fun_awake _).mono ?_
      rintro e wf ⟨⟨A3, c3, A4, c4, rfl, hvf⟩, hbf⟩
      refine ⟨_, rfl, ?_⟩
      refine hK.out _ _ (hHeld.call hbf) (fun hHeld => ?_)
      clear hK K
      refine norm_ (a' := ?_) ?_ ?_
      rotate_left
      · show Act.put _ (some 14) _ = _
        simp only [putAll, Act.put, List.setIfInBounds_toArray, List.set_cons_zero, List.set_cons_succ]
        rfl
      exact norm_ (by simp only [putAll, Act.put, List.setIfInBounds_toArray, List.set_cons_zero, List.set_cons_succ]) (hC111 (gl, bt, 0, A3, c3, A4, c4, none, 0, none, 0) _ ⟨hHeld, blk_below HGL.out hbf, ⟨blk_below HPL.out hbf, HPB.out⟩, hvf.out⟩)
    intro hC110
    refine join_ (σ := Nat × Nat × Nat × Option Addr × Nat × Option Addr × Nat × Option Addr × Nat × Option Addr × Nat) 8 #[false, true, true, true, true, false, false, false, false, false, true, false, false] (fun s_ => [(3, .pointer (some ⟨s_.2.1, 0, none⟩)), (14, Value.agg #[.int .i64 7, .int .i64 0, .string ⟨#[]⟩, .slice s_.2.2.2.1 0 s_.2.2.2.2.1, .slice s_.2.2.2.2.2.1 2 s_.2.2.2.2.2.2.1])]) (fun s_ w' => S0 w w' ∧ (Plain w' s_.2.1 ∧ w.heap.size ≤ s_.2.1) ∧ RT w' (Value.agg #[.int .i64 7, .int .i64 0, .string ⟨#[]⟩, .slice s_.2.2.2.1 0 s_.2.2.2.2.1, .slice s_.2.2.2.2.2.1 2 s_.2.2.2.2.2.2.1]) (funT tX tI)) ?_ ?_
    · skip
      rintro ⟨gl, bt, gr, A3, c3, A4, c4, E3, e3, E4, e4⟩ wj hj
      obtain ⟨hHeld, ⟨hpl, hpb⟩, hrt⟩ := hj
      dsimp only at hpl hpb hrt
      have HPL := Aside0.mk hpl
      have HPB := Aside0.mk hpb
      have HRT := Aside0.mk hrt
      clear hpl hpb hrt
      refine norm_ (a' := ?_) ?_ ?_
      rotate_left
      · simp only [putAll, Act.put, List.setIfInBounds_toArray, List.set_cons_zero, List.set_cons_succ]
        rfl
      refine two_ (i := 0) (j := 5) (Ni := some 10) (Nj := some 15) #[true, true, true, true, true, false, false, false, false, false, true, false, false] #[false, true, true, true, true, true, false, false, false, false, true, false, false] rfl rfl rfl rfl (by kernel_rfl) (by decide) (by decide) (fun K hK => ?_) (fun K hK => ?_)
      · skip
        go_simp
        refine hK.out _ _ (hHeld.alloc _) (fun hHeld => ?_)
        clear hK K
        exact norm_ (by simp only [putAll, Act.put, List.setIfInBounds_toArray, List.set_cons_zero, List.set_cons_succ]) (hC111 (wj.heap.size, bt, 0, A3, c3, A4, c4, none, 0, none, 0) _ ⟨hHeld, blk_newR _ _ rfl, ⟨blk_alloc HPL.out _, HPB.out⟩, RT.below HRT.out (below_alloc (Below.refl _ _) _)⟩)
      · skip
        go_simp
        refine hK.out _ _ (hHeld.alloc _) (fun hHeld => ?_)
        clear hK K
        exact norm_ (by simp only [putAll, Act.put, List.setIfInBounds_toArray, List.set_cons_zero, List.set_cons_succ]) (hC012 (0, bt, wj.heap.size, A3, c3, A4, c4, none, 0, none, 0) _ ⟨hHeld, ⟨blk_alloc HPL.out _, HPB.out⟩, RT.below HRT.out (below_alloc (Below.refl _ _) _), blk_newR _ _ rfl⟩)
    intro hC011
    refine join_ (σ := Nat × Nat × Nat × Option Addr × Nat × Option Addr × Nat × Option Addr × Nat × Option Addr × Nat) 8 #[true, true, true, true, true, false, false, false, false, false, false, false, false] (fun s_ => [(10, .slice (some ⟨s_.1, 0, none⟩) 2 2), (14, Value.agg #[.int .i64 7, .int .i64 0, .string ⟨#[]⟩, .slice s_.2.2.2.1 0 s_.2.2.2.2.1, .slice s_.2.2.2.2.2.1 2 s_.2.2.2.2.2.2.1])]) (fun s_ w' => S0 w w' ∧ w'.heap[s_.1]? = some (Obj.cells #[.string ⟨#[98]⟩, .string ⟨#[97]⟩] 9 (0, 0)) ∧ RT w' (Value.agg #[.int .i64 7, .int .i64 0, .string ⟨#[]⟩, .slice s_.2.2.2.1 0 s_.2.2.2.2.1, .slice s_.2.2.2.2.2.1 2 s_.2.2.2.2.2.2.1]) (funT tX tI)) ?_ ?_
    · skip
      rintro ⟨gl, bt, gr, A3, c3, A4, c4, E3, e3, E4, e4⟩ wj hj
      obtain ⟨hHeld, hgl, hrt⟩ := hj
      dsimp only at hgl hrt
      have HGL := Aside0.mk hgl
      have HRT := Aside0.mk hrt
      clear hgl hrt
      refine norm_ (a' := ?_) ?_ ?_
      rotate_left
      · simp only [putAll, Act.put, List.setIfInBounds_toArray, List.set_cons_zero, List.set_cons_succ]
        rfl
      refine two_ (i := 5) (j := 10) (Ni := some 15) (Nj := some 3) #[true, true, true, true, true, true, false, false, false, false, false, false, false] #[true, true, true, true, true, false, false, false, false, false, true, false, false] rfl rfl rfl rfl (by kernel_rfl) (by decide) (by decide) (fun K hK => ?_) (fun K hK => ?_)
      · skip
        go_simp
        refine hK.out _ _ (hHeld.alloc _) (fun hHeld => ?_)
        clear hK K
        exact norm_ (by simp only [putAll, Act.put, List.setIfInBounds_toArray, List.set_cons_zero, List.set_cons_succ]) (hC102 (gl, 0, wj.heap.size, A3, c3, A4, c4, none, 0, none, 0) _ ⟨hHeld, blk_alloc HGL.out _, RT.below HRT.out (below_alloc (Below.refl _ _) _), blk_newR _ _ rfl⟩)
      · skip
        have hbt := hHeld.2.2.2.2.2.2.2.2.2.2.2
        go_simp
        refine hK.out _ _ (hHeld.alloc _) (fun hHeld => ?_)
        clear hK K
        exact norm_ (by simp only [putAll, Act.put, List.setIfInBounds_toArray, List.set_cons_zero, List.set_cons_succ]) (hC111 (gl, wj.heap.size, 0, A3, c3, A4, c4, none, 0, none, 0) _ ⟨hHeld, blk_alloc HGL.out _, ⟨blk_newR _ _ rfl, Nat.le_of_lt (Nat.lt_of_succ_lt hbt)⟩, RT.below HRT.out (below_alloc (Below.refl _ _) _)⟩)
    intro hC101
    refine join_ (σ := Nat × Nat × Nat × Option Addr × Nat × Option Addr × Nat × Option Addr × Nat × Option Addr × Nat) 8 #[false, true, true, true, true, true, false, false, false, false, false, false, false] (fun s_ => [(14, Value.agg #[.int .i64 7, .int .i64 0, .string ⟨#[]⟩, .slice s_.2.2.2.1 0 s_.2.2.2.2.1, .slice s_.2.2.2.2.2.1 2 s_.2.2.2.2.2.2.1]), (15, .slice (some ⟨s_.2.2.1, 0, none⟩) 2 2)]) (fun s_ w' => S0 w w' ∧ RT w' (Value.agg #[.int .i64 7, .int .i64 0, .string ⟨#[]⟩, .slice s_.2.2.2.1 0 s_.2.2.2.2.1, .slice s_.2.2.2.2.2.1 2 s_.2.2.2.2.2.2.1]) (funT tX tI) ∧ w'.heap[s_.2.2.1]? = some (Obj.cells #[.int .i64 1, .int .i64 0, .string ⟨#[]⟩, .slice none 0 0, .slice none 0 0, .int .i64 7, .int .i64 0, .string ⟨#[]⟩, .slice s_.2.2.2.1 0 s_.2.2.2.2.1, .slice s_.2.2.2.2.2.1 2 s_.2.2.2.2.2.2.1] 26 (0, 0))) ?_ ?_
    · skip
      rintro ⟨gl, bt, gr, A3, c3, A4, c4, E3, e3, E4, e4⟩ wj hj
      obtain ⟨hHeld, hrt, hgr⟩ := hj
      dsimp only at hrt hgr
      have HRT := Aside0.mk hrt
      have HGR := Aside0.mk hgr
      clear hrt hgr
      refine norm_ (a' := ?_) ?_ ?_
      rotate_left
      · simp only [putAll, Act.put, List.setIfInBounds_toArray, List.set_cons_zero, List.set_cons_succ]
        rfl
      refine two_ (i := 0) (j := 10) (Ni := some 10) (Nj := some 3) #[true, true, true, true, true, true, false, false, false, false, false, false, false] #[false, true, true, true, true, true, false, false, false, false, true, false, false] rfl rfl rfl rfl (by kernel_rfl) (by decide) (by decide) (fun K hK => ?_) (fun K hK => ?_)
      · skip
        go_simp
        refine hK.out _ _ (hHeld.alloc _) (fun hHeld => ?_)
        clear hK K
        exact norm_ (by simp only [putAll, Act.put, List.setIfInBounds_toArray, List.set_cons_zero, List.set_cons_succ]) (hC102 (wj.heap.size, 0, gr, A3, c3, A4, c4, none, 0, none, 0) _ ⟨hHeld, blk_newR _ _ rfl, RT.below HRT.out (below_alloc (Below.refl _ _) _), blk_alloc HGR.out _⟩)
      · skip
        have hbt := hHeld.2.2.2.2.2.2.2.2.2.2.2
        go_simp
        refine hK.out _ _ (hHeld.alloc _) (fun hHeld => ?_)
        clear hK K
        exact norm_ (by simp only [putAll, Act.put, List.setIfInBounds_toArray, List.set_cons_zero, List.set_cons_succ]) (hC012 (0, wj.heap.size, gr, A3, c3, A4, c4, none, 0, none, 0) _ ⟨hHeld, ⟨blk_newR _ _ rfl, Nat.le_of_lt (Nat.lt_of_succ_lt hbt)⟩, RT.below HRT.out (below_alloc (Below.refl _ _) _), blk_alloc HGR.out _⟩)
    intro hC002
    refine join_ (σ := Nat × Nat × Nat × Option Addr × Nat × Option Addr × Nat × Option Addr × Nat × Option Addr × Nat) 9 #[false, true, true, true, false, false, false, false, false, false, true, false, false] (fun s_ => [(3, .pointer (some ⟨s_.2.1, 0, none⟩))]) (fun s_ w' => S0 w w' ∧ (Plain w' s_.2.1 ∧ w.heap.size ≤ s_.2.1)) ?_ ?_
    · skip
      rintro ⟨gl, bt, gr, A3, c3, A4, c4, E3, e3, E4, e4⟩ wj hj
      obtain ⟨hHeld, ⟨hpl, hpb⟩⟩ := hj
      dsimp only at hpl hpb
      have HPL := Aside0.mk hpl
      have HPB := Aside0.mk hpb
      clear hpl hpb
      refine norm_ (a' := ?_) ?_ ?_
      rotate_left
      · simp only [putAll, Act.put, List.setIfInBounds_toArray, List.set_cons_zero, List.set_cons_succ]
        rfl
      refine two_ (i := 0) (j := 4) (Ni := some 10) (Nj := some 14) #[true, true, true, true, false, false, false, false, false, false, true, false, false] #[false, true, true, true, true, false, false, false, false, false, true, false, false] rfl rfl rfl rfl (by kernel_rfl) (by decide) (by decide) (fun K hK => ?_) (fun K hK => ?_)
      · skip
        go_simp
        refine hK.out _ _ (hHeld.alloc _) (fun hHeld => ?_)
        clear hK K
        exact norm_ (by simp only [putAll, Act.put, List.setIfInBounds_toArray, List.set_cons_zero, List.set_cons_succ]) (hC110 (wj.heap.size, bt, 0, none, 0, none, 0, none, 0, none, 0) _ ⟨hHeld, blk_newR _ _ rfl, ⟨blk_alloc HPL.out _, HPB.out⟩⟩)
      · skip
        refine goes_ Try.func44 (by kernel_rfl) rfl #[.agg #[.int .i64 6, .int .i64 0, .string ⟨#[88]⟩, .slice none 0 0, .slice none 0 0], .agg #[.int .i64 1, .int .i64 0, .string ⟨#[]⟩, .slice none 0 0, .slice none 0 0]] (by rfl) rfl rfl (by (try simp only [List.map_toArray, List.map_cons, List.map_nil]); first | done | rfl) ?_
        with_reducible refine (fun_awake _).mono ?_
        rintro e wf ⟨⟨A3, c3, A4, c4, rfl, hvf⟩, hbf⟩
        refine ⟨_, rfl, ?_⟩
        refine hK.out _ _ (hHeld.call hbf) (fun hHeld => ?_)
        clear hK K
        refine norm_ (a' := ?_) ?_ ?_
        rotate_left
        · show Act.put _ (some 14) _ = _
          simp only [putAll, Act.put, List.setIfInBounds_toArray, List.set_cons_zero, List.set_cons_succ]
          rfl
        exact norm_ (by simp only [putAll, Act.put, List.setIfInBounds_toArray, List.set_cons_zero, List.set_cons_succ]) (hC011 (0, bt, 0, A3, c3, A4, c4, none, 0, none, 0) _ ⟨hHeld, ⟨blk_below HPL.out hbf, HPB.out⟩, hvf.out⟩)
    intro hC010
    refine join_ (σ := Nat × Nat × Nat × Option Addr × Nat × Option Addr × Nat × Option Addr × Nat × Option Addr × Nat) 9 #[true, true, true, true, false, false, false, false, false, false, false, false, false] (fun s_ => [(10, .slice (some ⟨s_.1, 0, none⟩) 2 2)]) (fun s_ w' => S0 w w' ∧ w'.heap[s_.1]? = some (Obj.cells #[.string ⟨#[98]⟩, .string ⟨#[97]⟩] 9 (0, 0))) ?_ ?_
    · skip
      rintro ⟨gl, bt, gr, A3, c3, A4, c4, E3, e3, E4, e4⟩ wj hj
      obtain ⟨hHeld, hgl⟩ := hj
      dsimp only at hgl
      have HGL := Aside0.mk hgl
      clear hgl
      refine norm_ (a' := ?_) ?_ ?_
      rotate_left
      · simp only [putAll, Act.put, List.setIfInBounds_toArray, List.set_cons_zero, List.set_cons_succ]
        rfl
      refine two_ (i := 4) (j := 10) (Ni := some 14) (Nj := some 3) #[true, true, true, true, true, false, false, false, false, false, false, false, false] #[true, true, true, true, false, false, false, false, false, false, true, false, false] rfl rfl rfl rfl (by kernel_rfl) (by decide) (by decide) (fun K hK => ?_) (fun K hK => ?_)
      · skip
        refine goes_ Try.func44 (by kernel_rfl) rfl #[.agg #[.int .i64 6, .int .i64 0, .string ⟨#[88]⟩, .slice none 0 0, .slice none 0 0], .agg #[.int .i64 1, .int .i64 0, .string ⟨#[]⟩, .slice none 0 0, .slice none 0 0]] (by rfl) rfl rfl (by (try simp only [List.map_toArray, List.map_cons, List.map_nil]); first | done | rfl) ?_
        with_reducible refine (fun_awake _).mono ?_
        rintro e wf ⟨⟨A3, c3, A4, c4, rfl, hvf⟩, hbf⟩
        refine ⟨_, rfl, ?_⟩
        refine hK.out _ _ (hHeld.call hbf) (fun hHeld => ?_)
        clear hK K
        refine norm_ (a' := ?_) ?_ ?_
        rotate_left
        · show Act.put _ (some 14) _ = _
          simp only [putAll, Act.put, List.setIfInBounds_toArray, List.set_cons_zero, List.set_cons_succ]
          rfl
        exact norm_ (by simp only [putAll, Act.put, List.setIfInBounds_toArray, List.set_cons_zero, List.set_cons_succ]) (hC101 (gl, 0, 0, A3, c3, A4, c4, none, 0, none, 0) _ ⟨hHeld, blk_below HGL.out hbf, hvf.out⟩)
      · skip
        have hbt := hHeld.2.2.2.2.2.2.2.2.2.2.2
        go_simp
        refine hK.out _ _ (hHeld.alloc _) (fun hHeld => ?_)
        clear hK K
        exact norm_ (by simp only [putAll, Act.put, List.setIfInBounds_toArray, List.set_cons_zero, List.set_cons_succ]) (hC110 (gl, wj.heap.size, 0, none, 0, none, 0, none, 0, none, 0) _ ⟨hHeld, blk_alloc HGL.out _, ⟨blk_newR _ _ rfl, Nat.le_of_lt (Nat.lt_of_succ_lt hbt)⟩⟩)
    intro hC100
    refine join_ (σ := Nat × Nat × Nat × Option Addr × Nat × Option Addr × Nat × Option Addr × Nat × Option Addr × Nat) 9 #[false, true, true, true, true, false, false, false, false, false, false, false, false] (fun s_ => [(14, Value.agg #[.int .i64 7, .int .i64 0, .string ⟨#[]⟩, .slice s_.2.2.2.1 0 s_.2.2.2.2.1, .slice s_.2.2.2.2.2.1 2 s_.2.2.2.2.2.2.1])]) (fun s_ w' => S0 w w' ∧ RT w' (Value.agg #[.int .i64 7, .int .i64 0, .string ⟨#[]⟩, .slice s_.2.2.2.1 0 s_.2.2.2.2.1, .slice s_.2.2.2.2.2.1 2 s_.2.2.2.2.2.2.1]) (funT tX tI)) ?_ ?_
    · skip
      rintro ⟨gl, bt, gr, A3, c3, A4, c4, E3, e3, E4, e4⟩ wj hj
      obtain ⟨hHeld, hrt⟩ := hj
      dsimp only at hrt
      have HRT := Aside0.mk hrt
      clear hrt
      refine norm_ (a' := ?_) ?_ ?_
      rotate_left
      · simp only [putAll, Act.put, List.setIfInBounds_toArray, List.set_cons_zero, List.set_cons_succ]
        rfl
      refine three_ (i := 0) (j := 5) (k := 10) (Ni := some 10) (Nj := some 15) (Nk := some 3) #[true, true, true, true, true, false, false, false, false, false, false, false, false] #[false, true, true, true, true, true, false, false, false, false, false, false, false] #[false, true, true, true, true, false, false, false, false, false, true, false, false] rfl rfl rfl rfl rfl rfl (by kernel_rfl) (by decide) (by decide) (by decide) (fun K hK => ?_) (fun K hK => ?_) (fun K hK => ?_)
      · skip
        go_simp
        refine hK.out _ _ (hHeld.alloc _) (fun hHeld => ?_)
        clear hK K
        exact norm_ (by simp only [putAll, Act.put, List.setIfInBounds_toArray, List.set_cons_zero, List.set_cons_succ]) (hC101 (wj.heap.size, 0, 0, A3, c3, A4, c4, none, 0, none, 0) _ ⟨hHeld, blk_newR _ _ rfl, RT.below HRT.out (below_alloc (Below.refl _ _) _)⟩)
      · skip
        go_simp
        refine hK.out _ _ (hHeld.alloc _) (fun hHeld => ?_)
        clear hK K
        exact norm_ (by simp only [putAll, Act.put, List.setIfInBounds_toArray, List.set_cons_zero, List.set_cons_succ]) (hC002 (0, 0, wj.heap.size, A3, c3, A4, c4, none, 0, none, 0) _ ⟨hHeld, RT.below HRT.out (below_alloc (Below.refl _ _) _), blk_newR _ _ rfl⟩)
      · skip
        have hbt := hHeld.2.2.2.2.2.2.2.2.2.2.2
        go_simp
        refine hK.out _ _ (hHeld.alloc _) (fun hHeld => ?_)
        clear hK K
        exact norm_ (by simp only [putAll, Act.put, List.setIfInBounds_toArray, List.set_cons_zero, List.set_cons_succ]) (hC011 (0, wj.heap.size, 0, A3, c3, A4, c4, none, 0, none, 0) _ ⟨hHeld, ⟨blk_newR _ _ rfl, Nat.le_of_lt (Nat.lt_of_succ_lt hbt)⟩, RT.below HRT.out (below_alloc (Below.refl _ _) _)⟩)
    intro hC001
    refine three_ (i := 0) (j := 4) (k := 10) (Ni := some 10) (Nj := some 14) (Nk := some 3) #[true, true, true, true, false, false, false, false, false, false, false, false, false] #[false, true, true, true, true, false, false, false, false, false, false, false, false] #[false, true, true, true, false, false, false, false, false, false, true, false, false] rfl rfl rfl rfl rfl rfl (by kernel_rfl) (by decide) (by decide) (by decide) (fun K hK => ?_) (fun K hK => ?_) (fun K hK => ?_)
    · skip
      go_simp
      refine hK.out _ _ (hHeld.alloc _) (fun hHeld => ?_)
      clear hK K
      exact norm_ (by simp only [putAll, Act.put, List.setIfInBounds_toArray, List.set_cons_zero, List.set_cons_succ]) (hC100 (wd.heap.size, 0, 0, none, 0, none, 0, none, 0, none, 0) _ ⟨hHeld, blk_newR _ _ rfl⟩)
    · skip
      refine goes_ Try.func44 (by kernel_rfl) rfl #[.agg #[.int .i64 6, .int .i64 0, .string ⟨#[88]⟩, .slice none 0 0, .slice none 0 0], .agg #[.int .i64 1, .int .i64 0, .string ⟨#[]⟩, .slice none 0 0, .slice none 0 0]] (by rfl) rfl rfl (by (try simp only [List.map_toArray, List.map_cons, List.map_nil]); first | done | rfl) ?_
      with_reducible refine (fun_awake _).mono ?_
      rintro e wf ⟨⟨A3, c3, A4, c4, rfl, hvf⟩, hbf⟩
      refine ⟨_, rfl, ?_⟩
      refine hK.out _ _ (hHeld.call hbf) (fun hHeld => ?_)
      clear hK K
      refine norm_ (a' := ?_) ?_ ?_
      rotate_left
      · show Act.put _ (some 14) _ = _
        simp only [putAll, Act.put, List.setIfInBounds_toArray, List.set_cons_zero, List.set_cons_succ]
        rfl
      exact norm_ (by simp only [putAll, Act.put, List.setIfInBounds_toArray, List.set_cons_zero, List.set_cons_succ]) (hC001 (0, 0, 0, A3, c3, A4, c4, none, 0, none, 0) _ ⟨hHeld, hvf.out⟩)
    · skip
      have hbt := hHeld.2.2.2.2.2.2.2.2.2.2.2
      go_simp
      refine hK.out _ _ (hHeld.alloc _) (fun hHeld => ?_)
      clear hK K
      exact norm_ (by simp only [putAll, Act.put, List.setIfInBounds_toArray, List.set_cons_zero, List.set_cons_succ]) (hC010 (0, wd.heap.size, 0, none, 0, none, 0, none, 0, none, 0) _ ⟨hHeld, ⟨blk_newR _ _ rfl, Nat.le_of_lt (Nat.lt_of_succ_lt hbt)⟩⟩)
  case rest =>
    have hrel : ∃ (bt : Nat) (A3 : Option Addr) (c3 : Nat) (A4 : Option Addr) (c4 : Nat), u3 = .pointer (some ⟨bt, 0, none⟩) ∧ u4 = .bool true ∧ Aside0 (wc.heap[bt]? = some (.cells #[.int .i64 8, .int .i64 0, .string ⟨#[]⟩, .slice A3 2 c3, .slice A4 2 c4] 26 (0, 0))) ∧ Aside0 (RT wc (.agg #[.int .i64 8, .int .i64 0, .string ⟨#[]⟩, .slice A3 2 c3, .slice A4 2 c4]) tA) ∧ Aside0 (Below w.heap.size w wc) := by assumption
    obtain ⟨bt, A3, c3, A4, c4, rfl, rfl, HT, HRT, HB⟩ := hrel
    have HP := Aside0.mk (fun (W : World) (hb : Below wc.heap.size wc W) => parts_of (HRT.out.below hb))
    have HWc := Aside0.mk (Below.refl wc.heap.size wc)
    obtain ⟨t0c, t1c, t2c, t3c, t4c⟩ := tcells HT.out (Below.refl _ _)
    go_wp2_with (first | (go_at_call 42; refine ((HP.out _ HWc.out).fld).mono ?_; rintro e w1 ⟨⟨B3, d3, B4, d4, rfl⟩, hb1⟩; have HW1 := Aside0.mk (HWc.out.trans (hb1.mono HWc.out.size)); obtain ⟨t01, t11, t21, t31, t41⟩ := tcells HT.out HW1.out; have hbz : bt < w1.heap.size := (World.block_lt_of_cell? w1 _ t01); have HW1a := Aside0.mk (HW1.out.alloc HW1.out.size (.cells #[.int .i64 1, .int .i64 0, .string ⟨#[]⟩, .slice B3 0 d3, .slice B4 0 d4] 26)); clear hb1) | (go_at_call 26; refine ((HP.out _ HW1a.out).rgt).mono ?_; rintro e w2 ⟨rfl, hb2⟩; have HW2 := Aside0.mk (HW1a.out.trans (hb2.mono HW1a.out.size)); obtain ⟨t02, t12, t22, t32, t42⟩ := tcells HT.out HW2.out; have HF2 := Aside0.mk (blk_below (blk_new w1 (.cells #[.int .i64 1, .int .i64 0, .string ⟨#[]⟩, .slice B3 0 d3, .slice B4 0 d4] 26)) hb2); have f2 := blk_cell HF2.out 0; simp at f2; clear hb2) | (go_at_call 27; refine ((HP.out _ HW2.out).nds).mono ?_; rintro e w3 ⟨rfl, hb3⟩; have HW3 := Aside0.mk (HW2.out.trans (hb3.mono HW2.out.size)); obtain ⟨t03, t13, t23, t33, t43⟩ := tcells HT.out HW3.out; have HF3 := Aside0.mk (blk_below HF2.out hb3); have f3 := blk_cell HF3.out 0; simp at f3; clear hb3) | (go_at_call 29; refine ((HP.out _ HW3.out).dep).mono ?_; rintro e w4 ⟨rfl, hb4⟩; have HW4 := Aside0.mk (HW3.out.trans (hb4.mono HW3.out.size)); obtain ⟨t04, t14, t24, t34, t44⟩ := tcells HT.out HW4.out; have HF4 := Aside0.mk (blk_below HF3.out hb4); have f4 := blk_cell HF4.out 0; simp at f4; clear hb4) | (go_at_call 33; refine ((HP.out _ HW4.out).vrs).mono ?_; rintro e w5 ⟨⟨AV, cv, rfl⟩, hb5⟩; have HW5 := Aside0.mk (HW4.out.trans (hb5.mono HW4.out.size)); obtain ⟨t05, t15, t25, t35, t45⟩ := tcells HT.out HW5.out; have HF5 := Aside0.mk (blk_below HF4.out hb5); have f5 := blk_cell HF5.out 0; simp at f5; clear hb5) | (go_at_call 35; refine ((HP.out _ HW5.out).fit).mono ?_; rintro e w6 ⟨rfl, hb6⟩; have HW6 := Aside0.mk (HW5.out.trans (hb6.mono HW5.out.size)); obtain ⟨t06, t16, t26, t36, t46⟩ := tcells HT.out HW6.out; have HF6 := Aside0.mk (blk_below HF5.out hb6); have f6 := blk_cell HF6.out 0; simp at f6; clear hb6) | (go_at_call 37; refine ((HP.out _ HW6.out).sme).mono ?_; rintro e w7 ⟨rfl, hb7⟩; have HW7 := Aside0.mk (HW6.out.trans (hb7.mono HW6.out.size)); obtain ⟨t07, t17, t27, t37, t47⟩ := tcells HT.out HW7.out; have HF7 := Aside0.mk (blk_below HF6.out hb7); have f7 := blk_cell HF7.out 0; simp at f7; clear hb7) | (go_at_call 31; refine ((HP.out _ HW7.out).has).mono ?_; rintro e w8 ⟨rfl, hb8⟩; have HW8 := Aside0.mk (HW7.out.trans (hb8.mono HW7.out.size)); obtain ⟨t08, t18, t28, t38, t48⟩ := tcells HT.out HW8.out; have HF8 := Aside0.mk (blk_below HF7.out hb8); have f8 := blk_cell HF8.out 0; simp at f8; clear hb8))
    go_ret
    exact ⟨rfl, HB.out.trans (HW8.out.mono HB.out.size)⟩
end Go.Proofs.Ytkeeknlfommieaa.PF
namespace Go.Proofs.Ytkeeknlfommieaa.PF
open Go.Proofs Go.Shelf Go.RowKit Go.Lib Go.Sort

/-- The types that the sort's bodies name, as they lie in P. -/
structure LF (P : Program) : Prop where
  mixed : P.follows .mixedOrders = true
  t0 : P.underlying 0 = some (TypeDesc.tuple #[])
  a0 : ∀ w, (isAgg 0).run P w = .ok false w
  z0 : ∀ w, (Go.sizeOf 0).run P w = .ok 1 w
  v0 : ∀ w, (zeroValue 0).run P w = .ok (Value.tuple #[]) w
  t3 : P.underlying 3 = some (TypeDesc.int IntKind.i64)
  a3 : ∀ w, (isAgg 3).run P w = .ok false w
  z3 : ∀ w, (Go.sizeOf 3).run P w = .ok 1 w
  v3 : ∀ w, (zeroValue 3).run P w = .ok (Value.int IntKind.i64 0) w
  t4 : P.underlying 4 = some (TypeDesc.bool)
  a4 : ∀ w, (isAgg 4).run P w = .ok false w
  z4 : ∀ w, (Go.sizeOf 4).run P w = .ok 1 w
  v4 : ∀ w, (zeroValue 4).run P w = .ok (Value.bool false) w
  t87 : P.underlying 87 = some (TypeDesc.slice 89)
  a87 : ∀ w, (isAgg 87).run P w = .ok false w
  z87 : ∀ w, (Go.sizeOf 87).run P w = .ok 1 w
  v87 : ∀ w, (zeroValue 87).run P w = .ok (Value.slice none 0 0) w
  t91 : P.underlying 91 = some (TypeDesc.func #[89, 89] #[3] false)
  a91 : ∀ w, (isAgg 91).run P w = .ok false w
  z91 : ∀ w, (Go.sizeOf 91).run P w = .ok 1 w
  v91 : ∀ w, (zeroValue 91).run P w = .ok (Value.nilFunc) w
  t108 : P.underlying 108 = some (TypeDesc.int IntKind.u64)
  a108 : ∀ w, (isAgg 108).run P w = .ok false w
  z108 : ∀ w, (Go.sizeOf 108).run P w = .ok 1 w
  v108 : ∀ w, (zeroValue 108).run P w = .ok (Value.int IntKind.u64 0) w
variable {P : Program} {α : Type} [Inhabited α]

def swpR (d : Array α) (a b : Nat) : Nat → Array α
  | 0 => d
  | n + 1 => swp (swpR d a b n) (a + n) (b + n)
theorem size_swpR (d : Array α) (a b : Nat) : ∀ n, (swpR d a b n).size = d.size
  | 0 => rfl
  | n + 1 => by rw [swpR, size_swp, size_swpR d a b n]

set_option maxHeartbeats 4000000 in
set_option maxRecDepth 1000000 in
theorem swapRange_gen (L : LF P) (F144 : P.funcs[144]? = some Try.f144) (k : Nat) (aE : ∀ w, (isAgg 89).run P w = .ok true w) (zE : ∀ w, (Go.sizeOf 89).run P w = .ok k w) (enc : α → List Value) (g : Nat) (cb : Array Value) (blk off cap a b n : Nat) (d0 d : Array α) (w0 w : World)
    (R : RowK enc k w0 blk off d0) (hs : d0.size = d.size) (S : SWK enc k w0 blk off d w) (ha : a + n ≤ d.size) (hb : b + n ≤ d.size) (hsz : d.size < 4611686018427387904) :
    Calls P 144 #[.slice (some ⟨blk, off, none⟩) d.size cap, .int .i64 a, .int .i64 b, .int .i64 n, .func (.func g) #[] cb] w fun e w' => e = .returned (.tuple #[]) ∧ SWK enc k w0 blk off (swpR d a b n) w' := by
  have mixed := L.mixed; have t0 := L.t0; have a0 := L.a0; have z0 := L.z0; have v0 := L.v0; have t3 := L.t3; have a3 := L.a3; have z3 := L.z3; have v3 := L.v3; have t4 := L.t4; have a4 := L.a4; have z4 := L.z4; have v4 := L.v4; have t87 := L.t87; have a87 := L.a87; have z87 := L.z87; have v87 := L.v87; have t91 := L.t91; have a91 := L.a91; have z91 := L.z91; have v91 := L.v91
  have S0 : Aside (SWK enc k w0 blk off d w) := S
  clear S
  go_enter F144, Try.ntmps144
  go_wp2
  go_loopg [10] n (fun kx s10 wr => ∃ (i : Nat), s10 = .int .i64 i ∧ kx + i = n ∧ Aside (SWK enc k w0 blk off (swpR d a b i) wr))
  case atStart => exact ⟨0, rfl, rfl, S0⟩
  case round =>
    clear S0
    obtain ⟨i, rfl, hkx, S1⟩ := hrel
    by_cases hlt : i < n
    · have hltz : (i : Int) < (n : Int) := by omega
      obtain ⟨dk, hdk⟩ : ∃ dk, swpR d a b i = dk := ⟨_, rfl⟩
      have hds : dk.size = d.size := by rw [← hdk]; exact size_swpR d a b i
      rw [hdk] at S1
      go_wp2_with fail
      have ea44 : ((a : Int) + (i : Int)).toNat = a + i := by omega
      have pa44 : (0 : Int) ≤ (a : Int) + (i : Int) := by omega
      have ba44 : (a : Int) + (i : Int) < (d.size : Int) := by omega
      have ra44 : IntKind.i64.wrap ((a : Int) + (i : Int)) = (a : Int) + (i : Int) := by rw [IntKind.wrap_i64]; omega
      have ec44 : ((b : Int) + (i : Int)).toNat = b + i := by omega
      have pc44 : (0 : Int) ≤ (b : Int) + (i : Int) := by omega
      have bc44 : (b : Int) + (i : Int) < (d.size : Int) := by omega
      have rc44 : IntKind.i64.wrap ((b : Int) + (i : Int)) = (b : Int) + (i : Int) := by rw [IntKind.wrap_i64]; omega
      have S2 : Aside (SWK enc k w0 blk off (swp dk (a + i) (b + i)) ((wr.drew.setCells blk (off + (a + i) * k) (enc dk[b + i]!)).setCells blk (off + (b + i) * k) (enc dk[a + i]!))) := S1.out.swapped R (a + i) (b + i) (by omega) (by omega)
      have l44a := S1.out.ld1 R (by omega) P (a + i) (by omega)
      have l44b := S1.out.ld1 R (by omega) P (b + i) (by omega)
      have s44a := S1.out.st1 R (by omega) P (a + i) (by omega) dk[b + i]!
      have s44b := S1.out.st2 R (by omega) P (a + i) (b + i) (by omega) (by omega) dk[b + i]! dk[a + i]!
      have n44a : (enc dk[a + i]!).length = k := R.hk _
      have n44b : (enc dk[b + i]!).length = k := R.hk _
      generalize enc dk[a + i]! = cI44 at S2 l44a s44b n44a
      generalize enc dk[b + i]! = cJ44 at S2 l44b s44a s44b n44b
      clear S1
      go_wp2_with fail
      go_big_region_o
      clear l44a l44b s44a s44b
      generalize (wr.drew.setCells blk (off + (a + i) * k) cJ44).setCells blk (off + (b + i) * k) cI44 = w2 at S2 ⊢
      go_wp2
      go_roundg (n - (i + 1))
      case measure => omega
      case rel => exact ⟨i + 1, by go_num, by omega, by rw [swpR, hdk]; exact S2⟩
    · go_wp2
      go_end0
      have : i = n := by omega
      subst this
      exact ⟨rfl, S1.out⟩
end Go.Proofs.Ytkeeknlfommieaa.PF
namespace Go.Proofs.Ytkeeknlfommieaa.PF
open Go.Proofs Go.Shelf Go.RowKit Go.Lib Go.Sort
variable {P : Program} {α : Type} [Inhabited α]

theorem swpR_get (d : Array α) (a b : Nat) : ∀ n, a + n ≤ b → b + n ≤ d.size → ∀ k, (swpR d a b n)[k]! = if a ≤ k ∧ k < a + n then d[b + (k - a)]! else if b ≤ k ∧ k < b + n then d[a + (k - b)]! else d[k]!
  | 0, _, _, k => by rw [swpR, if_neg (by omega), if_neg (by omega)]
  | n + 1, h1, h2, k => by
    have ih := swpR_get d a b n (by omega) (by omega)
    have hs := size_swpR d a b n
    rw [swpR, swp_get _ (by omega) (by omega)]
    by_cases e1 : k = b + n
    · subst e1
      rw [if_pos rfl, ih, if_neg (by omega), if_neg (by omega), if_neg (by omega), if_pos (by omega), show a + (b + n - b) = a + n by omega]
    · rw [if_neg e1]
      by_cases e2 : k = a + n
      · subst e2
        rw [if_pos rfl, ih, if_neg (by omega), if_neg (by omega), if_pos (by omega), show b + (a + n - a) = b + n by omega]
      · rw [if_neg e2, ih]
        by_cases c1 : a ≤ k ∧ k < a + n
        · rw [if_pos c1, if_pos (by omega)]
        · rw [if_neg c1, if_neg (show ¬ (a ≤ k ∧ k < a + (n + 1)) by omega)]
          by_cases c2 : b ≤ k ∧ k < b + n
          · rw [if_pos c2, if_pos (by omega)]
          · rw [if_neg c2, if_neg (by omega)]
theorem swpR_perm (d : Array α) (a b lo hi : Nat) (hlo : lo ≤ a) (hlo2 : lo ≤ b) (hhi : hi ≤ d.size) : ∀ n, a + n ≤ hi → b + n ≤ hi → PermIn lo hi d (swpR d a b n)
  | 0, _, _ => permIn_refl d lo hi
  | n + 1, h1, h2 => permIn_trans d _ _ lo hi (swpR_perm d a b lo hi hlo hlo2 hhi n (by omega) (by omega)) (swp_permIn _ lo hi (a + n) (b + n) (by omega) (by omega) (by omega) (by omega) (by rw [size_swpR]; exact hhi))

/-- [s, m) and [m, t) change places. -/
def rotS (e : Array α) (s m t k : Nat) : α := if s ≤ k ∧ k < s + (t - m) then e[m + (k - s)]! else if s + (t - m) ≤ k ∧ k < t then e[s + (k - (s + (t - m)))]! else e[k]!
/-- A round in which the left part is the longer one. -/
theorem rot_left (d : Array α) (m i j : Nat) (hi : i ≤ m) (hj : j < i) (hs : m + j ≤ d.size) (k : Nat) : rotS (swpR d (m - i) m j) (m - i + j) m (m + j) k = rotS d (m - i) m (m + j) k := by
  have hg := swpR_get d (m - i) m j (by omega) hs
  unfold rotS
  by_cases c1 : m - i ≤ k ∧ k < m - i + j
  · rw [if_neg (by omega), if_neg (by omega), hg, if_pos c1, if_pos (by omega)]
  · by_cases c2 : m - i + j ≤ k ∧ k < m - i + j + j
    · rw [if_pos (by omega), hg, if_neg (by omega), if_pos (by omega), if_neg (by omega), if_pos (by omega)]
      congr 1
      omega
    · by_cases c3 : m - i + j + j ≤ k ∧ k < m + j
      · rw [if_neg (by omega), if_pos (by omega), hg, if_neg (by omega), if_neg (by omega), if_neg (by omega), if_pos (by omega)]
        congr 1
        omega
      · rw [if_neg (by omega), if_neg (by omega), hg, if_neg (by omega), if_neg (by omega), if_neg (by omega), if_neg (by omega)]
/-- A round in which the right part is the longer one. -/
theorem rot_right (d : Array α) (m i j : Nat) (hi : i ≤ m) (hj : i < j) (hs : m + j ≤ d.size) (k : Nat) : rotS (swpR d (m - i) (m + j - i) i) (m - i) m (m + (j - i)) k = rotS d (m - i) m (m + j) k := by
  have hg := swpR_get d (m - i) (m + j - i) i (by omega) (by omega)
  unfold rotS
  by_cases c1 : m - i ≤ k ∧ k < m - i + (j - i)
  · rw [if_pos (by omega), hg, if_neg (by omega), if_neg (by omega), if_pos (by omega)]
  · by_cases c2 : m - i + (j - i) ≤ k ∧ k < m + (j - i)
    · rw [if_neg (by omega), if_pos (by omega), hg, if_pos (by omega), if_pos (by omega)]
      congr 1
      omega
    · by_cases c3 : m + (j - i) ≤ k ∧ k < m + j
      · rw [if_neg (by omega), if_neg (by omega), hg, if_neg (by omega), if_pos (by omega), if_neg (by omega), if_pos (by omega)]
        congr 1
        omega
      · rw [if_neg (by omega), if_neg (by omega), hg, if_neg (by omega), if_neg (by omega), if_neg (by omega), if_neg (by omega)]
theorem rot_end (d : Array α) (m i : Nat) (hi : i ≤ m) (hs : m + i ≤ d.size) (k : Nat) : (swpR d (m - i) m i)[k]! = rotS d (m - i) m (m + i) k := by
  have hg := swpR_get d (m - i) m i (by omega) hs
  rw [hg]
  unfold rotS
  by_cases c1 : m - i ≤ k ∧ k < m - i + i
  · rw [if_pos c1, if_pos (by omega)]
  · rw [if_neg c1, if_neg (show ¬ (m - i ≤ k ∧ k < m - i + (m + i - m)) by omega)]
    by_cases c2 : m ≤ k ∧ k < m + i
    · rw [if_pos c2, if_pos (by omega)]
      congr 1
      omega
    · rw [if_neg c2, if_neg (by omega)]
end Go.Proofs.Ytkeeknlfommieaa.PF
namespace Go.Proofs.Ytkeeknlfommieaa.PF
open Go.Proofs Go.Shelf Go.RowKit Go.Lib Go.Sort
variable {P : Program} {α : Type} [Inhabited α]

/-- What the rotation leaves. -/
structure Rotated (d : Array α) (a m b : Nat) (e : Array α) : Prop where
  perm : PermIn a b d e
  get : ∀ k, e[k]! = rotS d a m b k
set_option maxHeartbeats 4000000 in
set_option maxRecDepth 1000000 in
theorem rotate_gen (L : LF P) (F144 : P.funcs[144]? = some Try.f144) (F140 : P.funcs[140]? = some Try.f140) (k : Nat) (aE : ∀ w, (isAgg 89).run P w = .ok true w) (zE : ∀ w, (Go.sizeOf 89).run P w = .ok k w) (enc : α → List Value) (g : Nat) (cb : Array Value) (blk off cap a m b : Nat) (d0 d : Array α) (w0 w : World)
    (R : RowK enc k w0 blk off d0) (hs : d0.size = d.size) (S : SWK enc k w0 blk off d w) (ham : a < m) (hmb : m < b) (hb : b ≤ d.size) (hsz : d.size < 4611686018427387904) :
    Calls P 140 #[.slice (some ⟨blk, off, none⟩) d.size cap, .int .i64 a, .int .i64 m, .int .i64 b, .func (.func g) #[] cb] w fun e w' => e = .returned (.tuple #[]) ∧ ∃ e', Rotated d a m b e' ∧ SWK enc k w0 blk off e' w' := by
  have mixed := L.mixed; have t0 := L.t0; have a0 := L.a0; have z0 := L.z0; have v0 := L.v0; have t3 := L.t3; have a3 := L.a3; have z3 := L.z3; have v3 := L.v3; have t4 := L.t4; have a4 := L.a4; have z4 := L.z4; have v4 := L.v4; have t87 := L.t87; have a87 := L.a87; have z87 := L.z87; have v87 := L.v87; have t91 := L.t91; have a91 := L.a91; have z91 := L.z91; have v91 := L.v91
  have e144 : ∀ args w, (callFunc 144 args).run P w = .ok (.enter 144 args) w := enters_of F144 (by kernel_rfl) rfl
  have HS : Aside (∀ (x y n : Nat) (dk : Array α) (W : World), dk.size = d.size → SWK enc k w0 blk off dk W → x + n ≤ d.size → y + n ≤ d.size → Calls P 144 #[.slice (some ⟨blk, off, none⟩) d.size cap, .int .i64 x, .int .i64 y, .int .i64 n, .func (.func g) #[] cb] W fun e w' => e = .returned (.tuple #[]) ∧ SWK enc k w0 blk off (swpR dk x y n) w') := by
    intro x y n dk W hd h h1 h2
    have := swapRange_gen L F144 k aE zE enc g cb blk off cap x y n d0 dk w0 W R (by omega) h (by omega) (by omega) (by omega)
    rwa [hd] at this
  have S0 : Aside (SWK enc k w0 blk off d w) := S
  have EQ0 : Aside (∀ q, rotS d (m - (m - a)) m (m + (b - m)) q = rotS d a m b q) := fun q => by rw [show m - (m - a) = a by omega, show m + (b - m) = b by omega]
  clear S aE zE
  go_enter F140, Try.ntmps140
  have r1 : IntKind.i64.wrap ((m : Int) - (a : Int)) = ((m - a : Nat) : Int) := by rw [IntKind.wrap_i64]; omega
  have r2 : IntKind.i64.wrap ((b : Int) - (m : Int)) = ((b - m : Nat) : Int) := by rw [IntKind.wrap_i64]; omega
  go_wp2
  go_loopg [10, 11] (b - a) (fun _kx s10 s11 wr => ∃ (i j : Nat) (dk : Array α), s10 = .int .i64 i ∧ s11 = .int .i64 j ∧ 0 < i ∧ 0 < j ∧ i ≤ m - a ∧ j ≤ b - m ∧ i + j ≤ _kx ∧ dk.size = d.size ∧ Aside (SWK enc k w0 blk off dk wr) ∧ Aside (PermIn a b d dk) ∧ Aside (∀ q, rotS dk (m - i) m (m + j) q = rotS d a m b q))
  case atStart => exact ⟨m - a, b - m, d, by go_num, by go_num, by omega, by omega, Nat.le_refl _, Nat.le_refl _, by omega, rfl, S0, permIn_refl d a b, EQ0⟩
  case round =>
    obtain ⟨i, j, dk, rfl, rfl, hi0, hj0, hi, hj, hkx, hds, S1, PM, EQ⟩ := hrel
    clear S0 EQ0 r1 r2
    by_cases hij : i = j
    · subst hij
      have hne : ((i : Int) != (i : Int)) = false := by simp
      have r3 : IntKind.i64.wrap ((m : Int) - (i : Int)) = ((m - i : Nat) : Int) := by rw [IntKind.wrap_i64]; omega
      have HC := HS.out (m - i) m i dk wr hds S1.out (by omega) (by omega)
      go_wp2_with (go_at_fn 144; refine HC.mono ?_; rintro e w1 ⟨rfl, S2⟩)
      go_end0
      exact ⟨rfl, _, ⟨permIn_trans _ _ _ a b PM.out (swpR_perm dk (m - i) m a b (by omega) (by omega) (by omega) i (by omega) (by omega)), fun q => by rw [rot_end dk m i (by omega) (by omega) q]; exact EQ.out q⟩, S2⟩
    · have hne : ((i : Int) != (j : Int)) = true := by rw [bne_iff_ne]; omega
      by_cases hgt : j < i
      · have hgz : (i : Int) > (j : Int) := by omega
        have r3 : IntKind.i64.wrap ((m : Int) - (i : Int)) = ((m - i : Nat) : Int) := by rw [IntKind.wrap_i64]; omega
        have r4 : IntKind.i64.wrap ((i : Int) - (j : Int)) = ((i - j : Nat) : Int) := by rw [IntKind.wrap_i64]; omega
        have HC := HS.out (m - i) m j dk wr hds S1.out (by omega) (by omega)
        go_wp2_with (go_at_fn 144; refine HC.mono ?_; rintro e w1 ⟨rfl, S2⟩)
        go_roundg (i - j + j)
        case measure => omega
        case rel => exact ⟨i - j, j, _, by go_num, rfl, by omega, hj0, by omega, hj, by omega, by rw [size_swpR]; exact hds, S2, permIn_trans _ _ _ a b PM.out (swpR_perm dk (m - i) m a b (by omega) (by omega) (by omega) j (by omega) (by omega)), fun q => by rw [← EQ.out q, ← rot_left dk m i j (by omega) hgt (by omega) q, show m - (i - j) = m - i + j by omega]⟩
      · have hgz : ¬ (i : Int) > (j : Int) := by omega
        have r3 : IntKind.i64.wrap ((m : Int) - (i : Int)) = ((m - i : Nat) : Int) := by rw [IntKind.wrap_i64]; omega
        have r4 : IntKind.i64.wrap ((j : Int) - (i : Int)) = ((j - i : Nat) : Int) := by rw [IntKind.wrap_i64]; omega
        have r5 : IntKind.i64.wrap ((m : Int) + (j : Int)) = (m : Int) + (j : Int) := by rw [IntKind.wrap_i64]; omega
        have r6 : IntKind.i64.wrap ((m : Int) + (j : Int) - (i : Int)) = ((m + j - i : Nat) : Int) := by rw [IntKind.wrap_i64]; omega
        have HC := HS.out (m - i) (m + j - i) i dk wr hds S1.out (by omega) (by omega)
        go_wp2_with (go_at_fn 144; refine HC.mono ?_; rintro e w1 ⟨rfl, S2⟩)
        go_roundg (i + (j - i))
        case measure => omega
        case rel => exact ⟨i, j - i, _, rfl, by go_num, hi0, by omega, hi, by omega, by omega, by rw [size_swpR]; exact hds, S2, permIn_trans _ _ _ a b PM.out (swpR_perm dk (m - i) (m + j - i) a b (by omega) (by omega) (by omega) i (by omega) (by omega)), fun q => by rw [← EQ.out q, ← rot_right dk m i j (by omega) (by omega) (by omega) q]⟩
end Go.Proofs.Ytkeeknlfommieaa.PF
namespace Go.Proofs.Ytkeeknlfommieaa.PF
open Go.Proofs Go.Shelf Go.RowKit Go.Lib Go.Sort
variable {α : Type} [Inhabited α] {lt : α → α → Bool}

def bub (d : Array α) (a : Nat) : Nat → Array α
  | 0 => d
  | n + 1 => swp (bub d a n) (a + n) (a + n + 1)
theorem size_bub (d : Array α) (a : Nat) : ∀ n, (bub d a n).size = d.size
  | 0 => rfl
  | n + 1 => by rw [bub, size_swp, size_bub d a n]
theorem bub_get (d : Array α) (a : Nat) : ∀ n, a + n < d.size → ∀ k, (bub d a n)[k]! = if a ≤ k ∧ k < a + n then d[k + 1]! else if k = a + n then d[a]! else d[k]!
  | 0, _, k => by
    rw [bub, if_neg (by omega)]
    by_cases e : k = a + 0
    · rw [if_pos e, e]; rfl
    · rw [if_neg e]
  | n + 1, h, k => by
    have ih := bub_get d a n (by omega)
    have hs := size_bub d a n
    rw [bub, swp_get _ (by omega) (by omega)]
    by_cases e1 : k = a + n + 1
    · subst e1
      rw [if_pos rfl, ih, if_neg (by omega), if_pos rfl, if_neg (by omega), if_pos (by omega)]
    · rw [if_neg e1]
      by_cases e2 : k = a + n
      · subst e2
        rw [if_pos rfl, ih, if_neg (by omega), if_neg (by omega), if_pos (by omega)]
      · rw [if_neg e2, ih]
        by_cases c1 : a ≤ k ∧ k < a + n
        · rw [if_pos c1, if_pos (by omega)]
        · rw [if_neg c1, if_neg e2, if_neg (by omega), if_neg (by omega)]
theorem bub_rot (d : Array α) (a n : Nat) (h : a + n < d.size) (k : Nat) : (bub d a n)[k]! = rotS d a (a + 1) (a + n + 1) k := by
  rw [bub_get d a n h]
  unfold rotS
  by_cases c1 : a ≤ k ∧ k < a + n
  · rw [if_pos c1, if_pos (by omega)]
    congr 1
    omega
  · rw [if_neg c1, if_neg (show ¬ (a ≤ k ∧ k < a + (a + n + 1 - (a + 1))) by omega)]
    by_cases c2 : k = a + n
    · rw [if_pos c2, if_pos (by omega)]
      congr 1
      omega
    · rw [if_neg c2, if_neg (by omega)]
theorem bub_perm (d : Array α) (a lo hi : Nat) (hlo : lo ≤ a) (hhi : hi ≤ d.size) : ∀ n, a + n < hi → PermIn lo hi d (bub d a n)
  | 0, _ => permIn_refl d lo hi
  | n + 1, h => permIn_trans d _ _ lo hi (bub_perm d a lo hi hlo hhi n (by omega)) (swp_permIn _ lo hi (a + n) (a + n + 1) (by omega) (by omega) (by omega) (by omega) (by rw [size_bub]; exact hhi))
def bubD (d : Array α) (m : Nat) : Nat → Array α
  | 0 => d
  | n + 1 => swp (bubD d m n) (m - n) (m - n - 1)
theorem size_bubD (d : Array α) (m : Nat) : ∀ n, (bubD d m n).size = d.size
  | 0 => rfl
  | n + 1 => by rw [bubD, size_swp, size_bubD d m n]
theorem bubD_get (d : Array α) (m : Nat) (hm : m < d.size) : ∀ n, n ≤ m → ∀ k, (bubD d m n)[k]! = if m - n < k ∧ k ≤ m then d[k - 1]! else if k = m - n then d[m]! else d[k]!
  | 0, _, k => by
    rw [bubD, if_neg (by omega)]
    by_cases e : k = m - 0
    · rw [if_pos e, e]; rfl
    · rw [if_neg e]
  | n + 1, h, k => by
    have ih := bubD_get d m hm n (by omega)
    have hs := size_bubD d m n
    rw [bubD, swp_get _ (by omega) (by omega)]
    by_cases e1 : k = m - n - 1
    · subst e1
      rw [if_pos rfl, ih, if_neg (by omega), if_pos rfl, if_neg (by omega), if_pos (by omega)]
    · rw [if_neg e1]
      by_cases e2 : k = m - n
      · subst e2
        rw [if_pos rfl, ih, if_neg (by omega), if_neg (by omega), if_pos (by omega)]
      · rw [if_neg e2, ih]
        by_cases c1 : m - n < k ∧ k ≤ m
        · rw [if_pos c1, if_pos (by omega)]
        · rw [if_neg c1, if_neg e2, if_neg (by omega), if_neg (by omega)]
theorem bubD_rot (d : Array α) (m n : Nat) (hm : m < d.size) (hn : n ≤ m) (k : Nat) : (bubD d m n)[k]! = rotS d (m - n) m (m + 1) k := by
  rw [bubD_get d m hm n hn]
  unfold rotS
  by_cases c1 : m - n < k ∧ k ≤ m
  · rw [if_pos c1, if_neg (by omega), if_pos (by omega)]
    congr 1
    omega
  · rw [if_neg c1]
    by_cases c2 : k = m - n
    · rw [if_pos c2, if_pos (by omega)]
      congr 1
      omega
    · rw [if_neg c2, if_neg (by omega), if_neg (by omega)]
theorem bubD_perm (d : Array α) (m lo hi : Nat) (hm : m < hi) (hhi : hi ≤ d.size) : ∀ n, lo + n ≤ m → PermIn lo hi d (bubD d m n)
  | 0, _ => permIn_refl d lo hi
  | n + 1, h => permIn_trans d _ _ lo hi (bubD_perm d m lo hi hm hhi n (by omega)) (swp_permIn _ lo hi (m - n) (m - n - 1) (by omega) (by omega) (by omega) (by omega) (by rw [size_bubD]; exact hhi))

/-- One element ahead of a sorted run: behind all that is less, the whole is sorted. -/
theorem merge_one (hS : SWO lt) {d e : Array α} {a i b : Nat} (hai : a < i) (hib : i ≤ b) (hd : SortedIn lt (a + 1) b d) (h1 : i = a + 1 ∨ lt d[i - 1]! d[a]! = true) (h2 : i = b ∨ lt d[i]! d[a]! = false)
    (he : ∀ k, e[k]! = rotS d a (a + 1) i k) : SortedIn lt a b e := by
  have g1 : ∀ k, a ≤ k → k < i - 1 → e[k]! = d[k + 1]! := fun k h1 h2 => by
    rw [he, rotS, if_pos (by omega)]; congr 1; omega
  have g2 : e[i - 1]! = d[a]! := by
    rw [he, rotS, if_neg (by omega), if_pos (by omega)]; congr 1; omega
  have g3 : ∀ k, i ≤ k → e[k]! = d[k]! := fun k h => by rw [he, rotS, if_neg (by omega), if_neg (by omega)]
  have l1 : ∀ q, a + 1 ≤ q → q < i → lt d[a]! d[q]! = false := fun q hq hqi => by
    rcases h1 with h1 | h1
    · omega
    · by_cases e0 : q = i - 1
      · subst e0
        cases hx : lt d[a]! d[i - 1]! with
        | false => rfl
        | true => have := hS.trans _ _ _ hx h1; rw [hS.irrefl] at this; cases this
      · cases hx : lt d[a]! d[q]! with
        | false => rfl
        | true =>
          have h3 := hS.trans _ _ _ h1 hx
          have h4 := hd q (i - 1) hq (by omega) (by omega)
          rw [h4] at h3; cases h3
  have l2 : ∀ q, i ≤ q → q < b → lt d[q]! d[a]! = false := fun q hq hqb => by
    rcases h2 with h2 | h2
    · omega
    · by_cases e0 : q = i
      · rw [e0]; exact h2
      · exact hS.ntrans _ _ _ (hd i q (by omega) (by omega) hqb) h2
  intro p q hap hpq hqb
  by_cases cq : q < i - 1
  · rw [g1 q (by omega) cq, g1 p hap (by omega)]
    exact hd _ _ (by omega) (by omega) (by omega)
  · by_cases cq2 : q = i - 1
    · rw [cq2, g2, g1 p hap (by omega)]
      exact l1 _ (by omega) (by omega)
    · rw [g3 q (by omega)]
      by_cases cp : p < i - 1
      · rw [g1 p hap cp]
        exact hd _ _ (by omega) (by omega) hqb
      · by_cases cp2 : p = i - 1
        · rw [cp2, g2]
          exact l2 q (by omega) hqb
        · rw [g3 p (by omega)]
          exact hd _ _ (by omega) hpq hqb
/-- One element behind a sorted run. -/
theorem merge_last (hS : SWO lt) {d e : Array α} {a i m : Nat} (hai : a ≤ i) (him : i ≤ m) (hd : SortedIn lt a m d) (h1 : i = a ∨ lt d[m]! d[i - 1]! = false) (h2 : i = m ∨ lt d[m]! d[i]! = true)
    (he : ∀ k, e[k]! = rotS d i m (m + 1) k) : SortedIn lt a (m + 1) e := by
  have g1 : ∀ k, k < i → e[k]! = d[k]! := fun k h => by rw [he, rotS, if_neg (by omega), if_neg (by omega)]
  have g2 : e[i]! = d[m]! := by rw [he, rotS, if_pos (by omega)]; congr 1; omega
  have g3 : ∀ k, i < k → k ≤ m → e[k]! = d[k - 1]! := fun k h h' => by rw [he, rotS, if_neg (by omega), if_pos (by omega)]; congr 1; omega
  have l1 : ∀ q, a ≤ q → q < i → lt d[m]! d[q]! = false := fun q hq hqi => by
    rcases h1 with h1 | h1
    · omega
    · by_cases e0 : q = i - 1
      · rw [e0]; exact h1
      · exact hS.ntrans _ _ _ h1 (hd q (i - 1) hq (by omega) (by omega))
  have l2 : ∀ q, i ≤ q → q < m → lt d[q]! d[m]! = false := fun q hq hqm => by
    rcases h2 with h2 | h2
    · omega
    · cases hx : lt d[q]! d[m]! with
      | false => rfl
      | true =>
        have h3 := hS.trans _ _ _ hx h2
        by_cases e0 : q = i
        · rw [e0, hS.irrefl] at h3; cases h3
        · rw [hd i q (by omega) (by omega) hqm] at h3; cases h3
  intro p q hap hpq hqb
  by_cases cq : q < i
  · rw [g1 q cq, g1 p (by omega)]
    exact hd _ _ hap hpq (by omega)
  · by_cases cq2 : q = i
    · rw [cq2, g2, g1 p (by omega)]
      exact l1 _ hap (by omega)
    · rw [g3 q (by omega) (by omega)]
      by_cases cp : p < i
      · rw [g1 p cp]
        exact hd _ _ hap (by omega) (by omega)
      · by_cases cp2 : p = i
        · rw [cp2, g2]
          exact l2 _ (by omega) (by omega)
        · rw [g3 p (by omega) (by omega)]
          exact hd _ _ (by omega) (by omega) (by omega)
end Go.Proofs.Ytkeeknlfommieaa.PF
namespace Go.Proofs.Ytkeeknlfommieaa.PF
open Go.Proofs Go.Shelf Go.RowKit Go.Lib Go.Sort
variable {α : Type} [Inhabited α] {lt : α → α → Bool}

theorem permIn_mem {x y : Nat} {d d' : Array α} (h : PermIn x y d d') (hy : y ≤ d.size) {i : Nat} (hx : x ≤ i) (hi : i < y) : ∃ i', x ≤ i' ∧ i' < y ∧ d'[i]! = d[i']! := by
  have hs : d'.size = d.size := h.1
  have hm : d'[i]! ∈ (d'.extract x y).toList := by
    rw [getElem!_pos d' i (by omega)]
    refine List.mem_iff_getElem.2 ⟨i - x, by simp; omega, ?_⟩
    simp only [Array.getElem_toList, Array.getElem_extract]
    congr 1
    omega
  obtain ⟨q, hq, he⟩ := List.mem_iff_getElem.1 (h.2.2.subset hm)
  simp only [Array.length_toList, Array.size_extract] at hq
  refine ⟨x + q, by omega, by omega, ?_⟩
  rw [← he, getElem!_pos d (x + q) (by omega)]
  simp [Array.getElem_extract]
def LeAll (lt : α → α → Bool) (a c b : Nat) (d : Array α) : Prop := ∀ i j, a ≤ i → i < c → c ≤ j → j < b → lt d[j]! d[i]! = false
theorem LeAll.left {a c b : Nat} {d d' : Array α} (h : LeAll lt a c b d) (hp : PermIn a c d d') (hc : c ≤ d.size) : LeAll lt a c b d' := by
  intro i j h1 h2 h3 h4
  obtain ⟨i', a1, a2, e⟩ := permIn_mem hp hc h1 h2
  rw [e, hp.2.1 j (by omega)]
  exact h i' j a1 a2 h3 h4
theorem LeAll.right {a c b : Nat} {d d' : Array α} (h : LeAll lt a c b d) (hp : PermIn c b d d') (hb : b ≤ d.size) : LeAll lt a c b d' := by
  intro i j h1 h2 h3 h4
  obtain ⟨j', a1, a2, e⟩ := permIn_mem hp hb h3 h4
  rw [e, hp.2.1 i (by omega)]
  exact h i j' h1 h2 a1 a2
theorem sorted_join {a c b : Nat} {d : Array α} (h1 : SortedIn lt a c d) (h2 : SortedIn lt c b d) (h : LeAll lt a c b d) : SortedIn lt a b d := by
  intro i j hi hij hj
  by_cases e1 : j < c
  · exact h1 i j hi hij e1
  · by_cases e2 : c ≤ i
    · exact h2 i j e2 hij hj
    · exact h i j hi (by omega) (by omega) hj
theorem sorted_other {a b x y : Nat} {d d' : Array α} (h : SortedIn lt a b d) (hp : PermIn x y d d') (hd : b ≤ x ∨ y ≤ a) : SortedIn lt a b d' := by
  intro i j hi hij hj
  rw [hp.2.1 i (by omega), hp.2.1 j (by omega)]
  exact h i j hi hij hj
/-- What the split and the rotation leave. -/
structure Split (lt : α → α → Bool) (a s c t b : Nat) (e : Array α) : Prop where
  s1 : SortedIn lt a s e
  s2 : SortedIn lt s c e
  s3 : SortedIn lt c t e
  s4 : SortedIn lt t b e
  le : LeAll lt a c b e
theorem split_of (hS : SWO lt) {d e : Array α} {a s m t b : Nat} (has : a ≤ s) (hsm : s ≤ m) (hmt : m ≤ t) (htb : t ≤ b) (h1 : SortedIn lt a m d) (h2 : SortedIn lt m b d)
    (hX : s = a ∨ t = b ∨ lt d[t]! d[s - 1]! = false) (hY : s = m ∨ t = m ∨ lt d[t - 1]! d[s]! = true) (he : ∀ k, e[k]! = rotS d s m t k) : Split lt a s (s + (t - m)) t b e := by
  have g1 : ∀ k, k < s → e[k]! = d[k]! := fun k h => by rw [he, rotS, if_neg (by omega), if_neg (by omega)]
  have g2 : ∀ k, s ≤ k → k < s + (t - m) → e[k]! = d[m + (k - s)]! := fun k h h' => by rw [he, rotS, if_pos (by omega)]
  have g3 : ∀ k, s + (t - m) ≤ k → k < t → e[k]! = d[s + (k - (s + (t - m)))]! := fun k h h' => by rw [he, rotS, if_neg (by omega), if_pos (by omega)]
  have g4 : ∀ k, t ≤ k → e[k]! = d[k]! := fun k h => by rw [he, rotS, if_neg (by omega), if_neg (by omega)]
  have le1 : ∀ p q, a ≤ p → p ≤ q → q < m → lt d[q]! d[p]! = false := fun p q hp hpq hq => by
    by_cases e0 : p = q
    · rw [e0]; exact hS.irrefl _
    · exact h1 p q hp (by omega) hq
  have le2 : ∀ p q, m ≤ p → p ≤ q → q < b → lt d[q]! d[p]! = false := fun p q hp hpq hq => by
    by_cases e0 : p = q
    · rw [e0]; exact hS.irrefl _
    · exact h2 p q hp (by omega) hq
  -- A1 ≤ B2
  have x1 : ∀ p q, a ≤ p → p < s → t ≤ q → q < b → lt d[q]! d[p]! = false := fun p q hp hps hq hqb => by
    rcases hX with h | h | h
    · omega
    · omega
    · exact hS.ntrans _ _ _ (le2 t q (by omega) hq hqb) (hS.ntrans _ _ _ h (le1 p (s - 1) hp (by omega) (by omega)))
  -- B1 ≤ A2
  have y1 : ∀ p q, m ≤ p → p < t → s ≤ q → q < m → lt d[q]! d[p]! = false := fun p q hp hpt hq hqm => by
    rcases hY with h | h | h
    · omega
    · omega
    · have hh : lt d[s]! d[t - 1]! = false := by
        cases hx : lt d[s]! d[t - 1]! with
        | false => rfl
        | true => have := hS.trans _ _ _ h hx; rw [hS.irrefl] at this; cases this
      exact hS.ntrans _ _ _ (le1 s q (by omega) hq hqm) (hS.ntrans _ _ _ hh (le2 p (t - 1) hp (by omega) (by omega)))
  refine ⟨?_, ?_, ?_, ?_, ?_⟩
  · intro i j hi hij hj
    rw [g1 i (by omega), g1 j (by omega)]
    exact h1 i j hi hij (by omega)
  · intro i j hi hij hj
    rw [g2 i hi (by omega), g2 j (by omega) hj]
    exact h2 _ _ (by omega) (by omega) (by omega)
  · intro i j hi hij hj
    rw [g3 i hi (by omega), g3 j (by omega) hj]
    exact h1 _ _ (by omega) (by omega) (by omega)
  · intro i j hi hij hj
    rw [g4 i hi, g4 j (by omega)]
    exact h2 i j (by omega) hij hj
  · intro i j h3 h4 h5 h6
    by_cases ci : i < s
    · rw [g1 i ci]
      by_cases cj : j < t
      · rw [g3 j h5 cj]
        exact le1 _ _ h3 (by omega) (by omega)
      · rw [g4 j (by omega)]
        exact x1 i j h3 ci (by omega) h6
    · rw [g2 i (by omega) h4]
      by_cases cj : j < t
      · rw [g3 j h5 cj]
        exact y1 _ _ (by omega) (by omega) (by omega) (by omega)
      · rw [g4 j (by omega)]
        exact le2 _ _ (by omega) (by omega) h6
theorem rot_none_left (d : Array α) (m t k : Nat) (h : m ≤ t) : d[k]! = rotS d m m t k := by
  unfold rotS
  by_cases c : m ≤ k ∧ k < m + (t - m)
  · rw [if_pos c]; congr 1; omega
  · rw [if_neg c]
    by_cases c2 : m + (t - m) ≤ k ∧ k < t
    · rw [if_pos c2]; congr 1; omega
    · rw [if_neg c2]
theorem rot_none_right (d : Array α) (s m k : Nat) (h : s ≤ m) : d[k]! = rotS d s m m k := by
  unfold rotS
  by_cases c : s ≤ k ∧ k < s + (m - m)
  · omega
  · rw [if_neg c]
    by_cases c2 : s + (m - m) ≤ k ∧ k < m
    · rw [if_pos c2]; congr 1; omega
    · rw [if_neg c2]
theorem left_of {a s c t b : Nat} {e : Array α} (h : Split lt a s c t b e) (hh : s ≤ a ∨ c ≤ s) : SortedIn lt a c e := by
  intro i j hi hij hj
  rcases hh with hh | hh
  · exact h.s2 i j (by omega) hij hj
  · exact h.s1 i j hi hij (by omega)
theorem right_of {a s c t b : Nat} {e : Array α} (h : Split lt a s c t b e) (hh : t ≤ c ∨ b ≤ t) : SortedIn lt c b e := by
  intro i j hi hij hj
  rcases hh with hh | hh
  · exact h.s4 i j (by omega) hij hj
  · exact h.s3 i j hi hij (by omega)
/-- Both halves merged: the whole is. -/
theorem merged {a s c t b : Nat} {e e1 e2 : Array α} (h : Split lt a s c t b e) (hsz : b ≤ e.size) (hac : a ≤ c) (hcb : c ≤ b) (p1 : PermIn a c e e1) (q1 : SortedIn lt a c e1) (p2 : PermIn c b e1 e2) (q2 : SortedIn lt c b e2) :
    PermIn a b e e2 ∧ SortedIn lt a b e2 := by
  have hs1 : e1.size = e.size := p1.1
  have l1 := h.le.left p1 (by omega)
  have l2 := l1.right p2 (by omega)
  refine ⟨permIn_trans _ _ _ a b (permIn_mono _ _ a c a b (Nat.le_refl _) hcb hsz p1) (permIn_mono _ _ c b a b hac (Nat.le_refl _) (by omega) p2), sorted_join (sorted_other q1 p2 (.inl (Nat.le_refl _))) q2 l2⟩
end Go.Proofs.Ytkeeknlfommieaa.PF
namespace Go.Proofs.Ytkeeknlfommieaa.PF
open Go.Proofs Go.Shelf Go.RowKit Go.Lib Go.Sort
variable {P : Program} {α : Type} [Inhabited α]

set_option maxHeartbeats 4000000 in
set_option maxRecDepth 1000000 in
theorem symMerge_one (L : LF P) (F128 : P.funcs[128]? = some Try.f128) (k : Nat) (aE : ∀ w, (isAgg 89).run P w = .ok true w) (zE : ∀ w, (Go.sizeOf 89).run P w = .ok k w) (enc : α → List Value) (cf : α → α → Int) (hS : SWO (ltOf cf)) (g : Nat) (cb : Array Value) (blk off cap a b : Nat) (d0 d : Array α) (w0 w : World)
    (eg : ∀ args w, (callFunc g args).run P w = .ok (.enter g args) w) (hC : CmpLays P g cb enc k cf blk off d.size w0)
    (R : RowK enc k w0 blk off d0) (hs : d0.size = d.size) (S : SWK enc k w0 blk off d w) (hab : a + 1 < b) (hb : b ≤ d.size) (hsz : d.size < 4611686018427387904) (hd : SortedIn (ltOf cf) (a + 1) b d) :
    Calls P 128 #[.slice (some ⟨blk, off, none⟩) d.size cap, .int .i64 a, .int .i64 ((a + 1 : Nat) : Int), .int .i64 b, .func (.func g) #[] cb] w fun e w' => e = .returned (.tuple #[]) ∧ ∃ e', PermIn a b d e' ∧ SortedIn (ltOf cf) a b e' ∧ SWK enc k w0 blk off e' w' := by
  have mixed := L.mixed; have t0 := L.t0; have a0 := L.a0; have z0 := L.z0; have v0 := L.v0; have t3 := L.t3; have a3 := L.a3; have z3 := L.z3; have v3 := L.v3; have t4 := L.t4; have a4 := L.a4; have z4 := L.z4; have v4 := L.v4; have t87 := L.t87; have a87 := L.a87; have z87 := L.z87; have v87 := L.v87; have t91 := L.t91; have a91 := L.a91; have z91 := L.z91; have v91 := L.v91; have t108 := L.t108; have a108 := L.a108; have z108 := L.z108; have v108 := L.v108
  have S0 : Aside (SWK enc k w0 blk off d w) := S
  have HC : Aside (CmpLays P g cb enc k cf blk off d.size w0) := hC
  have HD : Aside (SortedIn (ltOf cf) (a + 1) b d) := hd
  clear S hC hd
  have r1 : IntKind.i64.wrap (((a + 1 : Nat) : Int) - (a : Int)) = 1 := by rw [IntKind.wrap_i64]; omega
  have r1' : IntKind.i64.wrap ((a : Int) + 1 - (a : Int)) = 1 := by rw [IntKind.wrap_i64]; omega
  go_enter F128, Try.ntmps128
  go_wp2
  go_loopg [10, 11] (b - (a + 1)) (fun kx s10 s11 wr => ∃ (i j : Nat), s10 = .int .i64 i ∧ s11 = .int .i64 j ∧ a + 1 ≤ i ∧ i ≤ j ∧ j ≤ b ∧ j - i ≤ kx ∧ (i = a + 1 ∨ ltOf cf d[i - 1]! d[a]! = true) ∧ (j = b ∨ ltOf cf d[j]! d[a]! = false) ∧ Aside (SWK enc k w0 blk off d wr))
  case atStart => exact ⟨a + 1, b, rfl, rfl, Nat.le_refl _, by omega, Nat.le_refl _, Nat.le_refl _, .inl rfl, .inl rfl, S0⟩
  case round =>
    clear S0
    obtain ⟨i, j, rfl, rfl, hai, hij, hjb, hkx, hI, hJ, S1⟩ := hrel
    by_cases hlt : i < j
    · have hltz : (i : Int) < (j : Int) := by omega
      obtain ⟨h, hh⟩ : ∃ h, (i + j) / 2 = h := ⟨_, rfl⟩
      have r2 : IntKind.i64.wrap ((i : Int) + (j : Int)) = (i : Int) + (j : Int) := by rw [IntKind.wrap_i64]; omega
      have hq : ((i : Int) + (j : Int)) / 2 = (h : Int) := by omega
      go_wp2_with fail
      obtain ⟨xh, hxh⟩ : ∃ x, d[h]! = x := ⟨_, rfl⟩
      obtain ⟨xa, hxa⟩ : ∃ x, d[a]! = x := ⟨_, rfl⟩
      have p0 : (0 : Int) ≤ (h : Int) := by omega
      have p1 : (0 : Int) ≤ (a : Int) := by omega
      have b0 : (h : Int) < (d.size : Int) := by omega
      have b1 : (a : Int) < (d.size : Int) := by omega
      have lj := fun n os => S1.out.ld R hs.symm P h (by omega) n os
      have lp := fun n os => S1.out.ld R hs.symm P a (by omega) n os
      have hcg := fun n os => S1.out.cmp HC.out rfl xh xa n os
      rw [hxh] at lj
      rw [hxa] at lp
      have HX : Hid (d[h]! = xh ∧ d[a]! = xa) := ⟨hxh, hxa⟩
      clear hxh hxa
      have HIJ : Hid ((i = a + 1 ∨ ltOf cf d[i - 1]! d[a]! = true) ∧ (j = b ∨ ltOf cf d[j]! d[a]! = false)) := ⟨hI, hJ⟩
      clear hI hJ
      by_cases hlv : cf xh xa < 0
      · go_quiet_grown (first | (go_at_fn g; refine Calls.grown_of (hcg _ _)))
        go_wp2_with fail
        go_roundg (j - (h + 1))
        case measure => omega
        case rel => exact ⟨h + 1, j, by go_num, rfl, by omega, by omega, hjb, Nat.le_refl _, .inr (by rw [Nat.add_sub_cancel, HX.out.1, HX.out.2]; exact decide_eq_true hlv), HIJ.out.2, S1.out.grown _ _⟩
      · go_quiet_grown (first | (go_at_fn g; refine Calls.grown_of (hcg _ _)))
        go_wp2_with fail
        go_roundg (h - i)
        case measure => omega
        case rel => exact ⟨i, h, rfl, by go_num, hai, by omega, by omega, Nat.le_refl _, HIJ.out.1, .inr (by rw [HX.out.1, HX.out.2]; exact decide_eq_false (by omega)), S1.out.grown _ _⟩
    · obtain rfl : i = j := by omega
      have HE : Hid (∀ e : Array α, (∀ q, e[q]! = rotS d a (a + 1) i q) → SortedIn (ltOf cf) a b e) := fun e he => merge_one hS (by omega) hjb HD.out hI hJ he
      clear hI hJ hkx hij hlt
      have r3 : IntKind.i64.wrap ((i : Int) - 1) = ((i - 1 : Nat) : Int) := by rw [IntKind.wrap_i64]; omega
      go_wp2
      go_loopg [13] (i - 1 - a) (fun _kx s13 wr => ∃ (q : Nat), s13 = .int .i64 ((a + q : Nat) : Int) ∧ q ≤ i - 1 - a ∧ i - 1 - a - q ≤ _kx ∧ Aside (SWK enc k w0 blk off (bub d a q) wr))
      case atStart => exact ⟨0, rfl, Nat.zero_le _, by omega, S1⟩
      case round =>
        clear S1
        obtain ⟨q, rfl, hq, hkq, S1⟩ := hrel
        by_cases hlt : a + q < i - 1
        · have hltz : (((a + q : Nat) : Int)) < ((i - 1 : Nat) : Int) := by omega
          obtain ⟨dk, hdk⟩ : ∃ dk, bub d a q = dk := ⟨_, rfl⟩
          have hds : dk.size = d.size := by rw [← hdk]; exact size_bub d a q
          rw [hdk] at S1
          obtain ⟨y, hy⟩ : ∃ y, a + q = y := ⟨_, rfl⟩
          rw [hy] at hltz ⊢
          go_wp2_with fail
          have ra44 : IntKind.i64.wrap ((y : Int) + 1) = (y : Int) + 1 := by rw [IntKind.wrap_i64]; omega
          have p44 : (0 : Int) ≤ (y : Int) := by omega
          have p45 : (0 : Int) ≤ (y : Int) + 1 := by omega
          have b44 : (y : Int) < (d.size : Int) := by omega
          have b45 : (y : Int) + 1 < (d.size : Int) := by omega
          have t45 : ((y : Int) + 1).toNat = y + 1 := by omega
          have S2 : Aside (SWK enc k w0 blk off (swp dk (y) (y + 1)) ((wr.drew.setCells blk (off + (y) * k) (enc dk[y + 1]!)).setCells blk (off + (y + 1) * k) (enc dk[y]!))) := S1.out.swapped R (y) (y + 1) (by omega) (by omega)
          have l44a := S1.out.ld1 R (by omega) P (y) (by omega)
          have l44b := S1.out.ld1 R (by omega) P (y + 1) (by omega)
          have s44a := S1.out.st1 R (by omega) P (y) (by omega) dk[y + 1]!
          have s44b := S1.out.st2 R (by omega) P (y) (y + 1) (by omega) (by omega) dk[y + 1]! dk[y]!
          have n44a : (enc dk[y]!).length = k := R.hk _
          have n44b : (enc dk[y + 1]!).length = k := R.hk _
          generalize enc dk[y]! = cI44 at S2 l44a s44b n44a
          generalize enc dk[y + 1]! = cJ44 at S2 l44b s44a s44b n44b
          clear S1
          go_wp2_with fail
          go_big_region_o
          clear l44a l44b s44a s44b
          generalize (wr.drew.setCells blk (off + (y) * k) cJ44).setCells blk (off + (y + 1) * k) cI44 = w2 at S2 ⊢
          go_wp2
          go_roundg (i - 1 - a - (q + 1))
          case measure => omega
          case rel => exact ⟨q + 1, by rw [← Nat.add_assoc, hy]; go_num, by omega, Nat.le_refl _, by rw [bub, hdk, hy]; exact S2⟩
        · have hnz : ¬ (((a + q : Nat) : Int)) < ((i - 1 : Nat) : Int) := by omega
          obtain ⟨y, hy⟩ : ∃ y, a + q = y := ⟨_, rfl⟩
          rw [hy] at hnz ⊢
          go_wp2
          first | (refine bodyPost_ret (results_none rfl _ _ _) rfl ?_) | go_outline
          have hqe : a + q + 1 = i := by omega
          exact ⟨rfl, _, bub_perm d a a b (Nat.le_refl _) hb q (by omega), HE.out _ (fun x => by rw [bub_rot d a q (by omega), hqe]), S1.out⟩
end Go.Proofs.Ytkeeknlfommieaa.PF
