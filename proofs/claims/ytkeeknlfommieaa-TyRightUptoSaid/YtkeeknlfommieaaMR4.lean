/- The laws' own awake: it returns true. · The reference's Same, of lists and of types. · The law TyRight: the walk. · What the rows hand over: types, lists of types and of texts, opened into the words of the walks. · A type that a row hands over, with its size: the bulk bounds it. · The row of TyRight, up to the bulk. -/
import Derived.Test.YtkeeknlfommieaaMR3
import Derived.Test.YtkeeknlfommieaaMR1
import Derived.Test.YtkeeknlfommieaaMR2
import Derived.Test.YtkeeknlfommieaaWLast
import Derived.Test.YtkeeknlfommieaaPFx68
import Derived.StillTailTactics
import Derived.Deep.RegionHeld3
import Derived.Test.YtkeeknlfommieaaMR0
import Derived.ChangeArms
import Derived.WalkKit
import Derived.ProofKit
import Derived.OpenShut
import Derived.ShutString
import Derived.ChangeOld
import Derived.Carry
import Derived.SizedLaws
import Derived.Test.YtkeeknlfommieaaRows
import Derived.JoinedCond
namespace Go.Proofs.Ytkeeknlfommieaa.PF
open Go.RowKit Go.Shelf Go.Sort Go.Proofs.YtkeeknlfommieaaW.PrintWords Go.Proofs.YtkeeknlfommieaaW.PrintLast Go.Proofs.YtkeeknlfommieaaW.PrintMore

def tI : S26 := ⟨1, 0, ⟨#[]⟩, [], []⟩
def tX : S26 := ⟨6, 0, ⟨#[88]⟩, [], []⟩
def tA : S26 := ⟨8, 0, ⟨#[]⟩, [⟨#[97]⟩, ⟨#[98]⟩], [funT tX tI, tI]⟩
theorem full_awake : FullT tA := by
  have hX : FullT tX := .mk _ _ _ _ _ (by decide) (by intro s h; cases h) (by intro s h; cases h)
  have hI : FullT tI := .mk _ _ _ _ _ (by decide) (by intro s h; cases h) (by intro s h; cases h)
  refine .mk _ _ _ _ _ (by decide) (by intro s hs; simp only [List.mem_cons, List.not_mem_nil, or_false] at hs; rcases hs with rfl | rfl <;> (intro h; cases h)) ?_
  intro x hx
  simp only [List.mem_cons, List.not_mem_nil, or_false] at hx
  rcases hx with rfl | rfl
  · refine .mk _ _ _ _ _ (by decide) (by intro s h; cases h) ?_
    intro y hy
    simp only [List.mem_cons, List.not_mem_nil, or_false] at hy
    rcases hy with rfl | rfl
    · exact hX
    · exact hI
  · exact hI
theorem rec_awake : recT [⟨#[98]⟩, ⟨#[97]⟩] [tI, funT tX tI] = (tA, true) := by
  rw [recT_eq rfl [(⟨#[97]⟩, funT tX tI), (⟨#[98]⟩, tI)] (List.Perm.swap _ _ _) (by simp [key]; decide)]
  rfl
theorem field_awake : fieldT tA ⟨#[98]⟩ = (tI, true) := by
  have e : placeS ⟨#[98]⟩ tA.f3 0 = 1 := by
    simp [tA, placeS, eqB_iff]
  unfold fieldT
  rw [e]
  rfl
theorem right_awake : rightT tA = true := by rfl
theorem nodes_awake : (preT tA).length = 5 := by rfl
theorem depth_awake : depT tA = 3 := by rfl
theorem vars_awake : (sortedVars tA).length = 1 := by
  unfold sortedVars
  rw [show bl (namesL (preT tA)) = [[88]] from rfl, List.mergeSort_singleton]
  rfl
theorem has_awake : hasT tA 7 = true := by rfl
theorem cS_two {W : World} {g : Nat} {a b : ByteArray} (h0 : W.cell? ⟨g, 0, none⟩ = some (.string a)) (h1 : W.cell? ⟨g, 1, none⟩ = some (.string b)) : Kd.string.C W (some ⟨g, 0, none⟩) 2 [a, b] := by
  refine ⟨rfl, by simp, fun _ => ⟨_, rfl, fun j p hj => ?_⟩⟩
  match j, hj with
  | 0, hj => cases hj; exact ⟨_, rfl, rfl, fun i u hu => by match i, hu with | 0, hu => cases hu; rw [show (⟨g, 0, none⟩ : Addr).add (0 * Kd.string.sz + 0) = ⟨g, 0, none⟩ from add_plain g _]; exact h0⟩
  | 1, hj => cases hj; exact ⟨_, rfl, rfl, fun i u hu => by match i, hu with | 0, hu => cases hu; rw [show (⟨g, 0, none⟩ : Addr).add (1 * Kd.string.sz + 0) = ⟨g, 1, none⟩ from add_plain g _]; exact h1⟩
theorem c26_two' {W : World} {g : Nat} {a b : S26} {A3 : Option Addr} {c3 : Nat} {A4 : Option Addr} {c4 : Nat} {B3 : Option Addr} {d3 : Nat} {B4 : Option Addr} {d4 : Nat}
    (h0 : W.cell? ⟨g, 0, none⟩ = some (.int .i64 a.f0)) (h1 : W.cell? ⟨g, 1, none⟩ = some (.int .i64 a.f1)) (h2 : W.cell? ⟨g, 2, none⟩ = some (.string a.f2)) (h3 : W.cell? ⟨g, 3, none⟩ = some (.slice A3 a.f3.length c3)) (h4 : W.cell? ⟨g, 4, none⟩ = some (.slice A4 a.f4.length c4))
    (h5 : W.cell? ⟨g, 5, none⟩ = some (.int .i64 b.f0)) (h6 : W.cell? ⟨g, 6, none⟩ = some (.int .i64 b.f1)) (h7 : W.cell? ⟨g, 7, none⟩ = some (.string b.f2)) (h8 : W.cell? ⟨g, 8, none⟩ = some (.slice B3 b.f3.length d3)) (h9 : W.cell? ⟨g, 9, none⟩ = some (.slice B4 b.f4.length d4))
    (l3 : a.f3.length ≤ c3) (g3 : Kd.string.C W A3 a.f3.length a.f3) (l4 : a.f4.length ≤ c4) (g4 : k26.C W A4 a.f4.length a.f4) (m3 : b.f3.length ≤ d3) (f3 : Kd.string.C W B3 b.f3.length b.f3) (m4 : b.f4.length ≤ d4) (f4 : k26.C W B4 b.f4.length b.f4) :
    k26.C W (some ⟨g, 0, none⟩) 2 [a, b] := by
  refine ⟨rfl, by simp, fun _ => ⟨_, rfl, fun j p hj => ?_⟩⟩
  have hadd : ∀ m, (⟨g, 0, none⟩ : Addr).add m = ⟨g, m, none⟩ := fun m => add_plain g m
  match j, hj with
  | 0, hj =>
    cases hj
    refine ⟨_, rfl, k26_mk W a l3 g3 l4 g4, fun i u hu => ?_⟩
    rw [hadd]
    match i, hu with
    | 0, hu => cases hu; exact h0
    | 1, hu => cases hu; exact h1
    | 2, hu => cases hu; exact h2
    | 3, hu => cases hu; exact h3
    | 4, hu => cases hu; exact h4
  | 1, hj =>
    cases hj
    refine ⟨_, rfl, k26_mk W b m3 f3 m4 f4, fun i u hu => ?_⟩
    rw [hadd]
    match i, hu with
    | 0, hu => cases hu; exact h5
    | 1, hu => cases hu; exact h6
    | 2, hu => cases hu; exact h7
    | 3, hu => cases hu; exact h8
    | 4, hu => cases hu; exact h9

abbrev S0 (w W : World) : Prop := W.cell? ⟨w.heap.size, 0, none⟩ = some (.int .i64 1) ∧ W.cell? ⟨w.heap.size, 1, none⟩ = some (.int .i64 0) ∧ W.cell? ⟨w.heap.size, 2, none⟩ = some (.string ⟨#[]⟩) ∧ W.cell? ⟨w.heap.size, 3, none⟩ = some (.slice none 0 0) ∧ W.cell? ⟨w.heap.size, 4, none⟩ = some (.slice none 0 0) ∧ W.cell? ⟨w.heap.size + 1, 0, none⟩ = some (.int .i64 6) ∧ W.cell? ⟨w.heap.size + 1, 1, none⟩ = some (.int .i64 0) ∧ W.cell? ⟨w.heap.size + 1, 2, none⟩ = some (.string ⟨#[88]⟩) ∧ W.cell? ⟨w.heap.size + 1, 3, none⟩ = some (.slice none 0 0) ∧ W.cell? ⟨w.heap.size + 1, 4, none⟩ = some (.slice none 0 0) ∧ Below w.heap.size w W ∧ w.heap.size + 1 < W.heap.size
theorem S0.low {w W : World} (h : S0 w W) : Below w.heap.size w W := h.2.2.2.2.2.2.2.2.2.2.1
theorem S0.drew {w W : World} (h : S0 w W) : S0 w W.drew := by
  obtain ⟨a0, a1, a2, a3, a4, b0, b1, b2, b3, b4, hb, hz⟩ := h
  exact ⟨a0, a1, a2, a3, a4, b0, b1, b2, b3, b4, below_drew hb, hz⟩
theorem S0.call {w W W' : World} (h : S0 w W) (hw : Below W.heap.size W W') : S0 w W' := by
  obtain ⟨a0, a1, a2, a3, a4, b0, b1, b2, b3, b4, hb, hz⟩ := h
  have hc : ∀ b i, b ≤ w.heap.size + 1 → W'.cell? ⟨b, i, none⟩ = W.cell? ⟨b, i, none⟩ := fun b i hi => hw.cell (p := ⟨b, i, none⟩) (show b < W.heap.size by omega)
  refine ⟨?_, ?_, ?_, ?_, ?_, ?_, ?_, ?_, ?_, ?_, hb.trans (hw.mono (by omega)), Nat.lt_of_lt_of_le hz hw.size⟩ <;> (rw [hc _ _ (by omega)]; assumption)
theorem S0.alloc {w W : World} (h : S0 w W) (o : Obj) : S0 w (W.alloc o) := h.call (below_alloc (Below.refl _ _) o)
theorem S0.set {w W : World} (h : S0 w W) {g i : Nat} {u : Value} (hg : w.heap.size + 1 < g) : S0 w (W.setCell ⟨g, i, none⟩ u) := by
  obtain ⟨a0, a1, a2, a3, a4, b0, b1, b2, b3, b4, hb, hz⟩ := h
  have hc : ∀ b i', b ≤ w.heap.size + 1 → (W.setCell ⟨g, i, none⟩ u).cell? ⟨b, i', none⟩ = W.cell? ⟨b, i', none⟩ := fun b i' hi => World.cell?_of_block (Below.heap_setCell W ⟨g, i, none⟩ u b (fun e => by have e' : b = g := e; omega))
  refine ⟨?_, ?_, ?_, ?_, ?_, ?_, ?_, ?_, ?_, ?_, hb.setCell (p := ⟨g, i, none⟩) (show w.heap.size ≤ g by omega) _, by rw [World.size_setCell]; exact hz⟩ <;> (rw [hc _ _ (by omega)]; assumption)
theorem size_drew' (w : World) : w.drew.heap.size = w.heap.size := rfl
theorem blk_new' (w : World) (o : Obj) {g : Nat} (h : g = w.heap.size) : (w.alloc o).heap[g]? = some o := by rw [h]; exact blk_new w o
theorem fun_awake0 (W : World) : Calls Try.prog 44 #[.agg #[.int .i64 6, .int .i64 0, .string ⟨#[88]⟩, .slice none 0 0, .slice none 0 0], .agg #[.int .i64 1, .int .i64 0, .string ⟨#[]⟩, .slice none 0 0, .slice none 0 0]] W fun e w' => (∃ v, e = .returned v ∧ RT w' v (funT tX tI)) ∧ Below W.heap.size W w' :=
  fun_calls tX tI W none 0 none 0 none 0 none 0 (Nat.le_refl _) (Kd.C_nil _ _) (Nat.le_refl _) (Kd.C_nil _ _) (Nat.le_refl _) (Kd.C_nil _ _) (Nat.le_refl _) (Kd.C_nil _ _)
theorem fun_awake (W : World) : Calls Try.prog 44 #[.agg #[.int .i64 6, .int .i64 0, .string ⟨#[88]⟩, .slice none 0 0, .slice none 0 0], .agg #[.int .i64 1, .int .i64 0, .string ⟨#[]⟩, .slice none 0 0, .slice none 0 0]] W fun e w' => (∃ A3 c3 A4 c4, e = .returned (.agg #[.int .i64 7, .int .i64 0, .string ⟨#[]⟩, .slice A3 0 c3, .slice A4 2 c4]) ∧ Aside0 (RT w' (.agg #[.int .i64 7, .int .i64 0, .string ⟨#[]⟩, .slice A3 0 c3, .slice A4 2 c4]) (funT tX tI))) ∧ Below W.heap.size W w' := by
  refine (fun_awake0 W).mono ?_
  rintro e w' ⟨⟨v, rfl, A3, c3, A4, c4, rfl, h⟩, hb⟩
  exact ⟨⟨A3, c3, A4, c4, rfl, ⟨A3, c3, A4, c4, rfl, h⟩⟩, hb⟩
theorem rec_awake_calls {W Wf : World} {g g' c c' : Nat} {A3 : Option Addr} {c3 : Nat} {A4 : Option Addr} {c4 : Nat} (hf : RT Wf (.agg #[.int .i64 7, .int .i64 0, .string ⟨#[]⟩, .slice A3 0 c3, .slice A4 2 c4]) (funT tX tI)) (hw : Below Wf.heap.size Wf W)
    (hl : W.heap[g]? = some (.cells #[.string ⟨#[98]⟩, .string ⟨#[97]⟩] 9 (0, 0))) (ha : W.heap[g']? = some (.cells #[.int .i64 1, .int .i64 0, .string ⟨#[]⟩, .slice none 0 0, .slice none 0 0, .int .i64 7, .int .i64 0, .string ⟨#[]⟩, .slice A3 0 c3, .slice A4 2 c4] 26 (0, 0))) (hc : 2 ≤ c) (hc' : 2 ≤ c') :
    Calls Try.prog 40 #[.slice (some ⟨g, 0, none⟩) 2 c, .slice (some ⟨g', 0, none⟩) 2 c'] W fun e w' => (∃ A3 c3 A4 c4, e = .returned (.tuple #[.agg #[.int .i64 8, .int .i64 0, .string ⟨#[]⟩, .slice A3 2 c3, .slice A4 2 c4], .bool true]) ∧ RT w' (.agg #[.int .i64 8, .int .i64 0, .string ⟨#[]⟩, .slice A3 2 c3, .slice A4 2 c4]) tA) ∧ Below W.heap.size W w' := by
  obtain ⟨B3, d3, B4, d4, e, l3, g3, l4, g4⟩ := hf.below hw
  simp [funT] at e
  obtain ⟨⟨rfl, rfl⟩, rfl, rfl⟩ := e
  have := rec_calls 19 sort_small (by decide) (some ⟨g, 0, none⟩) (some ⟨g', 0, none⟩) c c' [⟨#[98]⟩, ⟨#[97]⟩] [tI, funT tX tI] W hc hc' (cS_two (blk_cell hl 0) (blk_cell hl 1))
    (c26_two' (a := tI) (b := funT tX tI) (blk_cell ha 0) (blk_cell ha 1) (blk_cell ha 2) (blk_cell ha 3) (blk_cell ha 4) (blk_cell ha 5) (blk_cell ha 6) (blk_cell ha 7) (blk_cell ha 8) (blk_cell ha 9) (Nat.le_refl _) (Kd.C_nil _ _) (Nat.le_refl _) (Kd.C_nil _ _) l3 g3 l4 g4) (by decide)
  rw [rec_awake] at this
  refine this.mono ?_
  rintro e w' ⟨⟨v, rfl, hv⟩, hb⟩
  obtain ⟨E3, e3, E4, e4, rfl, h⟩ := hv
  exact ⟨⟨E3, e3, E4, e4, rfl, E3, e3, E4, e4, rfl, h⟩, hb⟩

/-- What the program's functions answer at that record, in every world that keeps it. -/
structure Parts (W : World) (A3 : Option Addr) (c3 : Nat) (A4 : Option Addr) (c4 : Nat) : Prop where
  fld : Calls Try.prog 42 #[.agg #[.int .i64 8, .int .i64 0, .string ⟨#[]⟩, .slice A3 2 c3, .slice A4 2 c4], .string ⟨#[98]⟩] W fun e w' => (∃ B3 d3 B4 d4, e = .returned (.tuple #[.agg #[.int .i64 1, .int .i64 0, .string ⟨#[]⟩, .slice B3 0 d3, .slice B4 0 d4], .bool true])) ∧ Below W.heap.size W w'
  rgt : Calls Try.prog 26 #[.agg #[.int .i64 8, .int .i64 0, .string ⟨#[]⟩, .slice A3 2 c3, .slice A4 2 c4]] W fun e w' => e = .returned (.bool true) ∧ Below W.heap.size W w'
  nds : Calls Try.prog 27 #[.agg #[.int .i64 8, .int .i64 0, .string ⟨#[]⟩, .slice A3 2 c3, .slice A4 2 c4]] W fun e w' => e = .returned (.int .i64 5) ∧ Below W.heap.size W w'
  dep : Calls Try.prog 29 #[.agg #[.int .i64 8, .int .i64 0, .string ⟨#[]⟩, .slice A3 2 c3, .slice A4 2 c4]] W fun e w' => e = .returned (.int .i64 3) ∧ Below W.heap.size W w'
  vrs : Calls Try.prog 33 #[.agg #[.int .i64 8, .int .i64 0, .string ⟨#[]⟩, .slice A3 2 c3, .slice A4 2 c4]] W fun e w' => (∃ A c, e = .returned (.slice A 1 c)) ∧ Below W.heap.size W w'
  fit : Calls Try.prog 35 #[.agg #[.int .i64 8, .int .i64 0, .string ⟨#[]⟩, .slice A3 2 c3, .slice A4 2 c4]] W fun e w' => e = .returned (.bool true) ∧ Below W.heap.size W w'
  sme : Calls Try.prog 37 #[.agg #[.int .i64 8, .int .i64 0, .string ⟨#[]⟩, .slice A3 2 c3, .slice A4 2 c4], .agg #[.int .i64 8, .int .i64 0, .string ⟨#[]⟩, .slice A3 2 c3, .slice A4 2 c4]] W fun e w' => e = .returned (.bool true) ∧ Below W.heap.size W w'
  has : Calls Try.prog 31 #[.agg #[.int .i64 8, .int .i64 0, .string ⟨#[]⟩, .slice A3 2 c3, .slice A4 2 c4], .int .i64 7] W fun e w' => e = .returned (.bool true) ∧ Below W.heap.size W w'
theorem parts_of {W : World} {A3 : Option Addr} {c3 : Nat} {A4 : Option Addr} {c4 : Nat} (h : RT W (.agg #[.int .i64 8, .int .i64 0, .string ⟨#[]⟩, .slice A3 2 c3, .slice A4 2 c4]) tA) : Parts W A3 c3 A4 c4 := by
  obtain ⟨B3, d3, B4, d4, e, l3, g3, l4, g4⟩ := h
  simp [tA] at e
  obtain ⟨⟨rfl, rfl⟩, rfl, rfl⟩ := e
  refine ⟨?_, ?_, ?_, ?_, ?_, ?_, ?_, ?_⟩
  · have h := field_calls tA ⟨#[98]⟩ W A3 c3 A4 c4 l3 g3 g4
    rw [field_awake] at h
    refine h.mono ?_
    rintro e w' ⟨⟨v, rfl, E3, e3, E4, e4, rfl, _⟩, hb⟩
    exact ⟨⟨E3, e3, E4, e4, rfl⟩, hb⟩
  · have h := right_calls tA W A3 c3 A4 c4 l3 g3 l4 g4
    rw [right_awake] at h
    exact h
  · have h := nodes_calls tA W A3 c3 A4 c4 g4 (by decide)
    rw [nodes_awake] at h
    exact h
  · have h := depth_calls tA (by decide) W A3 c3 A4 c4 l3 g3 l4 g4
    rw [depth_awake] at h
    exact h
  · have h := vars_calls tA W A3 c3 A4 c4 g4 (by decide)
    rw [vars_awake] at h
    refine h.mono ?_
    rintro e w' ⟨⟨A, c, rfl, _⟩, hb⟩
    exact ⟨⟨A, c, rfl⟩, hb⟩
  · have h := fits_calls tA W A3 c3 A4 c4 g4
    rw [show decide ((preT tA).length ≤ 300) = true by decide] at h
    exact h
  · have h := same_calls tA tA W A3 c3 A4 c4 A3 c3 A4 c4 l3 g3 l4 g4 l3 g3 l4 g4
    rw [eqB_self] at h
    exact h
  · have h := has_calls tA 7 W A3 c3 A4 c4 g4
    rw [has_awake] at h
    exact h
theorem tcells {wc W : World} {bt : Nat} {A3 : Option Addr} {c3 : Nat} {A4 : Option Addr} {c4 : Nat} (h : wc.heap[bt]? = some (.cells #[.int .i64 8, .int .i64 0, .string ⟨#[]⟩, .slice A3 2 c3, .slice A4 2 c4] 26 (0, 0))) (hb : Below wc.heap.size wc W) :
    W.cell? ⟨bt, 0, none⟩ = some (.int .i64 8) ∧ W.cell? ⟨bt, 1, none⟩ = some (.int .i64 0) ∧ W.cell? ⟨bt, 2, none⟩ = some (.string ⟨#[]⟩) ∧ W.cell? ⟨bt, 3, none⟩ = some (.slice A3 2 c3) ∧ W.cell? ⟨bt, 4, none⟩ = some (.slice A4 2 c4) := by
  have h' := blk_below h hb
  exact ⟨blk_cell h' 0, blk_cell h' 1, blk_cell h' 2, blk_cell h' 3, blk_cell h' 4⟩
set_option maxRecDepth 100000 in
set_option maxHeartbeats 40000000 in
theorem awake_calls (w : World) : Calls Try.prog 25 #[] w fun e w' => e = .returned (.bool true) ∧ Below w.heap.size w w' := by
  go_enter Try.func25, Try.ntmps25
  go_upto_region 3 with (fail)
  go_cut [3, 4] (fun v3 v4 wc => ∃ (bt : Nat) (A3 : Option Addr) (c3 : Nat) (A4 : Option Addr) (c4 : Nat), v3 = .pointer (some ⟨bt, 0, none⟩) ∧ v4 = .bool true ∧ Aside0 (wc.heap[bt]? = some (.cells #[.int .i64 8, .int .i64 0, .string ⟨#[]⟩, .slice A3 2 c3, .slice A4 2 c4] 26 (0, 0))) ∧ Aside0 (RT wc (.agg #[.int .i64 8, .int .i64 0, .string ⟨#[]⟩, .slice A3 2 c3, .slice A4 2 c4]) tA) ∧ Aside0 (Below w.heap.size w wc))
  case first =>
    have hS : S0 w ((w.alloc (.cells #[.int .i64 1, .int .i64 0, .string ⟨#[]⟩, .slice none 0 0, .slice none 0 0] 26)).alloc (.cells #[.int .i64 6, .int .i64 0, .string ⟨#[88]⟩, .slice none 0 0, .slice none 0 0] 26)) := by
      refine ⟨?_, ?_, ?_, ?_, ?_, ?_, ?_, ?_, ?_, ?_, below_alloc (below_alloc (Below.refl _ _) _) _, by simp⟩ <;> (simp; done)
    generalize (w.alloc (.cells #[.int .i64 1, .int .i64 0, .string ⟨#[]⟩, .slice none 0 0, .slice none 0 0] 26)).alloc (.cells #[.int .i64 6, .int .i64 0, .string ⟨#[88]⟩, .slice none 0 0, .slice none 0 0] 26) = W0 at *
    have hz0 : w.heap.size + 1 < W0.heap.size := hS.2.2.2.2.2.2.2.2.2.2.2
    rename_i Q0 K0 hrest J0 K1 hJ hM
    clear hrest
    refine start_ (n := 13) (S := S0 w) (ds := [11]) #[false, false, false, false, false, false, false, false, false, false, false, false, false] (by kernel_rfl) rfl rfl hS.drew (fun hHeld => ?_)
    obtain ⟨wd, hwd⟩ : ∃ x, x = W0.drew := ⟨_, rfl⟩
    rw [← hwd] at hHeld ⊢
    clear hwd hS hz0
    refine take_ (i := 1) (N := some 11) (v := ?_) (a' := ?_) #[false, true, false, false, false, false, false, false, false, false, false, false, false] rfl rfl (by kernel_rfl) (fun _ _ _ h => h) (Or.inl ⟨by rfl, ?_⟩) hHeld ?_ ?_
    rotate_left
    · rintro w' ⟨s0, s1, s2, s3, s4, s5, s6, s7, s8, s9, _⟩
      go_simp
      with_reducible rfl
    rotate_left
    · simp only [putAll, Act.put, List.setIfInBounds_toArray, List.set_cons_zero, List.set_cons_succ]
      rfl
    refine take_ (i := 2) (N := some 12) (v := ?_) (a' := ?_) #[false, true, true, false, false, false, false, false, false, false, false, false, false] rfl rfl (by kernel_rfl) (fun _ _ _ h => h) (Or.inl ⟨by rfl, ?_⟩) hHeld ?_ ?_
    rotate_left
    · rintro w' ⟨s0, s1, s2, s3, s4, s5, s6, s7, s8, s9, _⟩
      go_simp
      with_reducible rfl
    rotate_left
    · simp only [putAll, Act.put, List.setIfInBounds_toArray, List.set_cons_zero, List.set_cons_succ]
      rfl
    refine take_ (i := 3) (N := some 13) (v := ?_) (a' := ?_) #[false, true, true, true, false, false, false, false, false, false, false, false, false] rfl rfl (by kernel_rfl) (fun _ _ _ h => h) (Or.inl ⟨by rfl, ?_⟩) hHeld ?_ ?_
    rotate_left
    · rintro w' ⟨s0, s1, s2, s3, s4, s5, s6, s7, s8, s9, _⟩
      go_simp
      with_reducible rfl
    rotate_left
    · simp only [putAll, Act.put, List.setIfInBounds_toArray, List.set_cons_zero, List.set_cons_succ]
      rfl
    refine join_ (σ := Nat × Nat × Nat × Option Addr × Nat × Option Addr × Nat × Option Addr × Nat × Option Addr × Nat) 2 #[true, true, true, true, true, true, true, true, true, true, true, false, false] (fun s_ => [(10, .slice (some ⟨s_.1, 0, none⟩) 2 2), (3, .pointer (some ⟨s_.2.1, 0, none⟩)), (14, Value.agg #[.int .i64 7, .int .i64 0, .string ⟨#[]⟩, .slice s_.2.2.2.1 0 s_.2.2.2.2.1, .slice s_.2.2.2.2.2.1 2 s_.2.2.2.2.2.2.1]), (15, .slice (some ⟨s_.2.2.1, 0, none⟩) 2 2), (16, .tuple #[Value.agg #[.int .i64 8, .int .i64 0, .string ⟨#[]⟩, .slice s_.2.2.2.2.2.2.2.1 2 s_.2.2.2.2.2.2.2.2.1, .slice s_.2.2.2.2.2.2.2.2.2.1 2 s_.2.2.2.2.2.2.2.2.2.2], .bool true]), (9, .tuple #[Value.agg #[.int .i64 8, .int .i64 0, .string ⟨#[]⟩, .slice s_.2.2.2.2.2.2.2.1 2 s_.2.2.2.2.2.2.2.2.1, .slice s_.2.2.2.2.2.2.2.2.2.1 2 s_.2.2.2.2.2.2.2.2.2.2], .bool true]), (17, Value.agg #[.int .i64 8, .int .i64 0, .string ⟨#[]⟩, .slice s_.2.2.2.2.2.2.2.1 2 s_.2.2.2.2.2.2.2.2.1, .slice s_.2.2.2.2.2.2.2.2.2.1 2 s_.2.2.2.2.2.2.2.2.2.2]), (18, .bool true)]) (fun s_ w' => S0 w w' ∧ w'.heap[s_.1]? = some (Obj.cells #[.string ⟨#[98]⟩, .string ⟨#[97]⟩] 9 (0, 0)) ∧ (Plain w' s_.2.1 ∧ w.heap.size ≤ s_.2.1) ∧ RT w' (Value.agg #[.int .i64 8, .int .i64 0, .string ⟨#[]⟩, .slice s_.2.2.2.2.2.2.2.1 2 s_.2.2.2.2.2.2.2.2.1, .slice s_.2.2.2.2.2.2.2.2.2.1 2 s_.2.2.2.2.2.2.2.2.2.2]) tA) ?_ ?_
    · skip
      rintro ⟨gl, bt, gr, A3, c3, A4, c4, E3, e3, E4, e4⟩ wj hj
      obtain ⟨hHeld, hgl, ⟨hpl, hpb⟩, hra⟩ := hj
      dsimp only at hgl hpl hpb hra
      have HGL := Aside0.mk hgl
      have HPL := Aside0.mk hpl
      have HPB := Aside0.mk hpb
      have HRA := Aside0.mk hra
      clear hgl hpl hpb hra
      refine norm_ (a' := ?_) ?_ ?_
      rotate_left
      · simp only [putAll, Act.put, List.setIfInBounds_toArray, List.set_cons_zero, List.set_cons_succ]
        rfl
      refine last_ (i := 11) (N := none) #[true, true, true, true, true, true, true, true, true, true, true, true, false] rfl rfl (by kernel_rfl) (by decide) (fun K hK => ?_)
      have p0 := blk_cell (show wj.heap[bt]? = _ from HPL.out) 0
      have p1 := blk_cell (show wj.heap[bt]? = _ from HPL.out) 1
      have p2 := blk_cell (show wj.heap[bt]? = _ from HPL.out) 2
      have p3 := blk_cell (show wj.heap[bt]? = _ from HPL.out) 3
      have p4 := blk_cell (show wj.heap[bt]? = _ from HPL.out) 4
      have pz := fun i => blk_frozen (show wj.heap[bt]? = _ from HPL.out) i
      simp at p0 p1 p2 p3 p4
      go_simp
      refine hK.out _ _ ?_
      clear hK K p0 p1 p2 p3 p4 pz
      refine pure_ (i := 12) (N := some 4) (v := ?_) (a' := ?_) #[true, true, true, true, true, true, true, true, true, true, true, true, true] rfl rfl (by kernel_rfl) (fun _ _ _ h => h) (Or.inl ⟨by rfl, ?_⟩) ?_ ?_
      rotate_left
      · intro w'
        go_simp
        with_reducible rfl
      rotate_left
      · simp only [putAll, Act.put, List.setIfInBounds_toArray, List.set_cons_zero, List.set_cons_succ]
        rfl
      refine done_ (by kernel_rfl) ?_
      go_wp2_with fail
      all_goals
        go_meet
        case rel => exact ⟨bt, E3, e3, E4, e4, rfl, rfl, ⟨put5P HPL.out⟩, ⟨HRA.out.off offB_put5 HPL.out full_awake⟩, ⟨below5 hHeld.low HPB.out⟩⟩
    intro hC113
    refine join_ (σ := Nat × Nat × Nat × Option Addr × Nat × Option Addr × Nat × Option Addr × Nat × Option Addr × Nat) 3 #[true, true, true, true, true, true, true, true, true, true, false, false, false] (fun s_ => [(10, .slice (some ⟨s_.1, 0, none⟩) 2 2), (14, Value.agg #[.int .i64 7, .int .i64 0, .string ⟨#[]⟩, .slice s_.2.2.2.1 0 s_.2.2.2.2.1, .slice s_.2.2.2.2.2.1 2 s_.2.2.2.2.2.2.1]), (15, .slice (some ⟨s_.2.2.1, 0, none⟩) 2 2), (16, .tuple #[Value.agg #[.int .i64 8, .int .i64 0, .string ⟨#[]⟩, .slice s_.2.2.2.2.2.2.2.1 2 s_.2.2.2.2.2.2.2.2.1, .slice s_.2.2.2.2.2.2.2.2.2.1 2 s_.2.2.2.2.2.2.2.2.2.2], .bool true]), (9, .tuple #[Value.agg #[.int .i64 8, .int .i64 0, .string ⟨#[]⟩, .slice s_.2.2.2.2.2.2.2.1 2 s_.2.2.2.2.2.2.2.2.1, .slice s_.2.2.2.2.2.2.2.2.2.1 2 s_.2.2.2.2.2.2.2.2.2.2], .bool true]), (17, Value.agg #[.int .i64 8, .int .i64 0, .string ⟨#[]⟩, .slice s_.2.2.2.2.2.2.2.1 2 s_.2.2.2.2.2.2.2.2.1, .slice s_.2.2.2.2.2.2.2.2.2.1 2 s_.2.2.2.2.2.2.2.2.2.2]), (18, .bool true)]) (fun s_ w' => S0 w w' ∧ w'.heap[s_.1]? = some (Obj.cells #[.string ⟨#[98]⟩, .string ⟨#[97]⟩] 9 (0, 0)) ∧ RT w' (Value.agg #[.int .i64 8, .int .i64 0, .string ⟨#[]⟩, .slice s_.2.2.2.2.2.2.2.1 2 s_.2.2.2.2.2.2.2.2.1, .slice s_.2.2.2.2.2.2.2.2.2.1 2 s_.2.2.2.2.2.2.2.2.2.2]) tA) ?_ ?_
    · skip
      rintro ⟨gl, bt, gr, A3, c3, A4, c4, E3, e3, E4, e4⟩ wj hj
      obtain ⟨hHeld, hgl, hra⟩ := hj
      dsimp only at hgl hra
      have HGL := Aside0.mk hgl
      have HRA := Aside0.mk hra
      clear hgl hra
      refine norm_ (a' := ?_) ?_ ?_
      rotate_left
      · simp only [putAll, Act.put, List.setIfInBounds_toArray, List.set_cons_zero, List.set_cons_succ]
        rfl
      refine one_ (i := 10) (N := some 3) #[true, true, true, true, true, true, true, true, true, true, true, false, false] rfl rfl (by kernel_rfl) (by decide) (fun K hK => ?_)
      have hbt := hHeld.2.2.2.2.2.2.2.2.2.2.2
      go_simp
      refine hK.out _ _ (hHeld.alloc _) (fun hHeld => ?_)
      clear hK K
      exact norm_ (by simp only [putAll, Act.put, List.setIfInBounds_toArray, List.set_cons_zero, List.set_cons_succ]) (hC113 (gl, wj.heap.size, gr, A3, c3, A4, c4, E3, e3, E4, e4) _ ⟨hHeld, blk_alloc HGL.out _, ⟨blk_newR _ _ rfl, Nat.le_of_lt (Nat.lt_of_succ_lt hbt)⟩, RT.below HRA.out (below_alloc (Below.refl _ _) _)⟩)
    intro hC103
    refine join_ (σ := Nat × Nat × Nat × Option Addr × Nat × Option Addr × Nat × Option Addr × Nat × Option Addr × Nat) 6 #[true, true, true, true, true, true, false, false, false, false, true, false, false] (fun s_ => [(10, .slice (some ⟨s_.1, 0, none⟩) 2 2), (3, .pointer (some ⟨s_.2.1, 0, none⟩)), (14, Value.agg #[.int .i64 7, .int .i64 0, .string ⟨#[]⟩, .slice s_.2.2.2.1 0 s_.2.2.2.2.1, .slice s_.2.2.2.2.2.1 2 s_.2.2.2.2.2.2.1]), (15, .slice (some ⟨s_.2.2.1, 0, none⟩) 2 2)]) (fun s_ w' => S0 w w' ∧ w'.heap[s_.1]? = some (Obj.cells #[.string ⟨#[98]⟩, .string ⟨#[97]⟩] 9 (0, 0)) ∧ (Plain w' s_.2.1 ∧ w.heap.size ≤ s_.2.1) ∧ RT w' (Value.agg #[.int .i64 7, .int .i64 0, .string ⟨#[]⟩, .slice s_.2.2.2.1 0 s_.2.2.2.2.1, .slice s_.2.2.2.2.2.1 2 s_.2.2.2.2.2.2.1]) (funT tX tI) ∧ w'.heap[s_.2.2.1]? = some (Obj.cells #[.int .i64 1, .int .i64 0, .string ⟨#[]⟩, .slice none 0 0, .slice none 0 0, .int .i64 7, .int .i64 0, .string ⟨#[]⟩, .slice s_.2.2.2.1 0 s_.2.2.2.2.1, .slice s_.2.2.2.2.2.1 2 s_.2.2.2.2.2.2.1] 26 (0, 0))) ?_ ?_
    · skip
      rintro ⟨gl, bt, gr, A3, c3, A4, c4, E3, e3, E4, e4⟩ wj hj
      obtain ⟨hHeld, hgl, ⟨hpl, hpb⟩, hrt, hgr⟩ := hj
      dsimp only at hgl hpl hpb hrt hgr
      have HGL := Aside0.mk hgl
      have HPL := Aside0.mk hpl
      have HPB := Aside0.mk hpb
      have HRT := Aside0.mk hrt
      have HGR := Aside0.mk hgr
      clear hgl hpl hpb hrt hgr
      refine norm_ (a' := ?_) ?_ ?_
      rotate_left
      · simp only [putAll, Act.put, List.setIfInBounds_toArray, List.set_cons_zero, List.set_cons_succ]
        rfl
      refine one_ (i := 6) (N := some 16) #[true, true, true, true, true, true, true, false, false, false, true, false, false] rfl rfl (by kernel_rfl) (by decide) (fun K hK => ?_)
      refine goes_ Try.func40 (by kernel_rfl) rfl #[.slice (some ⟨gl, 0, none⟩) 2 2, .slice (some ⟨gr, 0, none⟩) 2 2] (by rfl) rfl rfl (by (try simp only [List.map_toArray, List.map_cons, List.map_nil]); first | done | rfl) ?_
      with_reducible refine (rec_awake_calls HRT.out (Below.refl _ _) HGL.out HGR.out (Nat.le_refl _) (Nat.le_refl _)).mono ?_
      rintro e wr ⟨⟨E3, e3, E4, e4, rfl, hvr⟩, hbr⟩
      refine ⟨_, rfl, ?_⟩
      refine hK.out _ _ (hHeld.call hbr) (fun hHeld => ?_)
      clear hK K
      refine norm_ (a' := ?_) ?_ ?_
      rotate_left
      · show Act.put _ (some 16) _ = _
        simp only [putAll, Act.put, List.setIfInBounds_toArray, List.set_cons_zero, List.set_cons_succ]
        rfl
      refine pure_ (i := 7) (N := some 9) (v := ?_) (a' := ?_) #[true, true, true, true, true, true, true, true, false, false, true, false, false] rfl rfl (by kernel_rfl) (fun _ _ _ h => h) (Or.inl ⟨by rfl, ?_⟩) ?_ ?_
      rotate_left
      · intro w'
        go_simp
        with_reducible rfl
      rotate_left
      · simp only [putAll, Act.put, List.setIfInBounds_toArray, List.set_cons_zero, List.set_cons_succ]
        rfl
      refine pure_ (i := 8) (N := some 17) (v := ?_) (a' := ?_) #[true, true, true, true, true, true, true, true, true, false, true, false, false] rfl rfl (by kernel_rfl) (fun _ _ _ h => h) (Or.inl ⟨by rfl, ?_⟩) ?_ ?_
      rotate_left
      · intro w'
        go_simp
        with_reducible rfl
      rotate_left
      · simp only [putAll, Act.put, List.setIfInBounds_toArray, List.set_cons_zero, List.set_cons_succ]
        rfl
      refine pure_ (i := 9) (N := some 18) (v := ?_) (a' := ?_) #[true, true, true, true, true, true, true, true, true, true, true, false, false] rfl rfl (by kernel_rfl) (fun _ _ _ h => h) (Or.inl ⟨by rfl, ?_⟩) ?_ ?_
      rotate_left
      · intro w'
        go_simp
        with_reducible rfl
      rotate_left
      · simp only [putAll, Act.put, List.setIfInBounds_toArray, List.set_cons_zero, List.set_cons_succ]
        rfl
      exact norm_ (by simp only [putAll, Act.put, List.setIfInBounds_toArray, List.set_cons_zero, List.set_cons_succ]) (hC113 (gl, bt, gr, A3, c3, A4, c4, E3, e3, E4, e4) _ ⟨hHeld, blk_below HGL.out hbr, ⟨blk_below HPL.out hbr, HPB.out⟩, hvr⟩)
    intro hC112
    refine join_ (σ := Nat × Nat × Nat × Option Addr × Nat × Option Addr × Nat × Option Addr × Nat × Option Addr × Nat) 7 #[true, true, true, true, true, false, false, false, false, false, true, false, false] (fun s_ => [(10, .slice (some ⟨s_.1, 0, none⟩) 2 2), (3, .pointer (some ⟨s_.2.1, 0, none⟩)), (14, Value.agg #[.int .i64 7, .int .i64 0, .string ⟨#[]⟩, .slice s_.2.2.2.1 0 s_.2.2.2.2.1, .slice s_.2.2.2.2.2.1 2 s_.2.2.2.2.2.2.1])]) (fun s_ w' => S0 w w' ∧ w'.heap[s_.1]? = some (Obj.cells #[.string ⟨#[98]⟩, .string ⟨#[97]⟩] 9 (0, 0)) ∧ (Plain w' s_.2.1 ∧ w.heap.size ≤ s_.2.1) ∧ RT w' (Value.agg #[.int .i64 7, .int .i64 0, .string ⟨#[]⟩, .slice s_.2.2.2.1 0 s_.2.2.2.2.1, .slice s_.2.2.2.2.2.1 2 s_.2.2.2.2.2.2.1]) (funT tX tI)) ?_ ?_
    · skip
      rintro ⟨gl, bt, gr, A3, c3, A4, c4, E3, e3, E4, e4⟩ wj hj
      obtain ⟨hHeld, hgl, ⟨hpl, hpb⟩, hrt⟩ := hj
      dsimp only at hgl hpl hpb hrt
      have HGL := Aside0.mk hgl
      have HPL := Aside0.mk hpl
      have HPB := Aside0.mk hpb
      have HRT := Aside0.mk hrt
      clear hgl hpl hpb hrt
      refine norm_ (a' := ?_) ?_ ?_
      rotate_left
      · simp only [putAll, Act.put, List.setIfInBounds_toArray, List.set_cons_zero, List.set_cons_succ]
        rfl
      refine one_ (i := 5) (N := some 15) #[true, true, true, true, true, true, false, false, false, false, true, false, false] rfl rfl (by kernel_rfl) (by decide) (fun K hK => ?_)
      go_simp
      refine hK.out _ _ (hHeld.alloc _) (fun hHeld => ?_)
      clear hK K
      exact norm_ (by simp only [putAll, Act.put, List.setIfInBounds_toArray, List.set_cons_zero, List.set_cons_succ]) (hC112 (gl, bt, wj.heap.size, A3, c3, A4, c4, none, 0, none, 0) _ ⟨hHeld, blk_alloc HGL.out _, ⟨blk_alloc HPL.out _, HPB.out⟩, RT.below HRT.out (below_alloc (Below.refl _ _) _), blk_newR _ _ rfl⟩)
    intro hC111
    refine join_ (σ := Nat × Nat × Nat × Option Addr × Nat × Option Addr × Nat × Option Addr × Nat × Option Addr × Nat) 7 #[false, true, true, true, true, true, false, false, false, false, true, false, false] (fun s_ => [(3, .pointer (some ⟨s_.2.1, 0, none⟩)), (14, Value.agg #[.int .i64 7, .int .i64 0, .string ⟨#[]⟩, .slice s_.2.2.2.1 0 s_.2.2.2.2.1, .slice s_.2.2.2.2.2.1 2 s_.2.2.2.2.2.2.1]), (15, .slice (some ⟨s_.2.2.1, 0, none⟩) 2 2)]) (fun s_ w' => S0 w w' ∧ (Plain w' s_.2.1 ∧ w.heap.size ≤ s_.2.1) ∧ RT w' (Value.agg #[.int .i64 7, .int .i64 0, .string ⟨#[]⟩, .slice s_.2.2.2.1 0 s_.2.2.2.2.1, .slice s_.2.2.2.2.2.1 2 s_.2.2.2.2.2.2.1]) (funT tX tI) ∧ w'.heap[s_.2.2.1]? = some (Obj.cells #[.int .i64 1, .int .i64 0, .string ⟨#[]⟩, .slice none 0 0, .slice none 0 0, .int .i64 7, .int .i64 0, .string ⟨#[]⟩, .slice s_.2.2.2.1 0 s_.2.2.2.2.1, .slice s_.2.2.2.2.2.1 2 s_.2.2.2.2.2.2.1] 26 (0, 0))) ?_ ?_
    · skip
      rintro ⟨gl, bt, gr, A3, c3, A4, c4, E3, e3, E4, e4⟩ wj hj
      obtain ⟨hHeld, ⟨hpl, hpb⟩, hrt, hgr⟩ := hj
      dsimp only at hpl hpb hrt hgr
      have HPL := Aside0.mk hpl
      have HPB := Aside0.mk hpb
      have HRT := Aside0.mk hrt
      have HGR := Aside0.mk hgr
      clear hpl hpb hrt hgr
      refine norm_ (a' := ?_) ?_ ?_
      rotate_left
      · simp only [putAll, Act.put, List.setIfInBounds_toArray, List.set_cons_zero, List.set_cons_succ]
        rfl
      refine one_ (i := 0) (N := some 10) #[true, true, true, true, true, true, false, false, false, false, true, false, false] rfl rfl (by kernel_rfl) (by decide) (fun K hK => ?_)
      go_simp
      refine hK.out _ _ (hHeld.alloc _) (fun hHeld => ?_)
      clear hK K
      exact norm_ (by simp only [putAll, Act.put, List.setIfInBounds_toArray, List.set_cons_zero, List.set_cons_succ]) (hC112 (wj.heap.size, bt, gr, A3, c3, A4, c4, none, 0, none, 0) _ ⟨hHeld, blk_newR _ _ rfl, ⟨blk_alloc HPL.out _, HPB.out⟩, RT.below HRT.out (below_alloc (Below.refl _ _) _), blk_alloc HGR.out _⟩)
    intro hC012
    refine join_ (σ := Nat × Nat × Nat × Option Addr × Nat × Option Addr × Nat × Option Addr × Nat × Option Addr × Nat) 7 #[true, true, true, true, true, true, false, false, false, false, false, false, false] (fun s_ => [(10, .slice (some ⟨s_.1, 0, none⟩) 2 2), (14, Value.agg #[.int .i64 7, .int .i64 0, .string ⟨#[]⟩, .slice s_.2.2.2.1 0 s_.2.2.2.2.1, .slice s_.2.2.2.2.2.1 2 s_.2.2.2.2.2.2.1]), (15, .slice (some ⟨s_.2.2.1, 0, none⟩) 2 2)]) (fun s_ w' => S0 w w' ∧ w'.heap[s_.1]? = some (Obj.cells #[.string ⟨#[98]⟩, .string ⟨#[97]⟩] 9 (0, 0)) ∧ RT w' (Value.agg #[.int .i64 7, .int .i64 0, .string ⟨#[]⟩, .slice s_.2.2.2.1 0 s_.2.2.2.2.1, .slice s_.2.2.2.2.2.1 2 s_.2.2.2.2.2.2.1]) (funT tX tI) ∧ w'.heap[s_.2.2.1]? = some (Obj.cells #[.int .i64 1, .int .i64 0, .string ⟨#[]⟩, .slice none 0 0, .slice none 0 0, .int .i64 7, .int .i64 0, .string ⟨#[]⟩, .slice s_.2.2.2.1 0 s_.2.2.2.2.1, .slice s_.2.2.2.2.2.1 2 s_.2.2.2.2.2.2.1] 26 (0, 0))) ?_ ?_
    · skip
      rintro ⟨gl, bt, gr, A3, c3, A4, c4, E3, e3, E4, e4⟩ wj hj
      obtain ⟨hHeld, hgl, hrt, hgr⟩ := hj
      dsimp only at hgl hrt hgr
      have HGL := Aside0.mk hgl
      have HRT := Aside0.mk hrt
      have HGR := Aside0.mk hgr
      clear hgl hrt hgr
      refine norm_ (a' := ?_) ?_ ?_
      rotate_left
      · simp only [putAll, Act.put, List.setIfInBounds_toArray, List.set_cons_zero, List.set_cons_succ]
        rfl
      refine two_ (i := 6) (j := 10) (Ni := some 16) (Nj := some 3) #[true, true, true, true, true, true, true, false, false, false, false, false, false] #[true, true, true, true, true, true, false, false, false, false, true, false, false] rfl rfl rfl rfl (by kernel_rfl) (by decide) (by decide) (fun K hK => ?_) (fun K hK => ?_)
      · skip
        refine goes_ Try.func40 (by kernel_rfl) rfl #[.slice (some ⟨gl, 0, none⟩) 2 2, .slice (some ⟨gr, 0, none⟩) 2 2] (by rfl) rfl rfl (by (try simp only [List.map_toArray, List.map_cons, List.map_nil]); first | done | rfl) ?_
        with_reducible refine (rec_awake_calls HRT.out (Below.refl _ _) HGL.out HGR.out (Nat.le_refl _) (Nat.le_refl _)).mono ?_
        rintro e wr ⟨⟨E3, e3, E4, e4, rfl, hvr⟩, hbr⟩
        refine ⟨_, rfl, ?_⟩
        refine hK.out _ _ (hHeld.call hbr) (fun hHeld => ?_)
        clear hK K
        refine norm_ (a' := ?_) ?_ ?_
        rotate_left
        · show Act.put _ (some 16) _ = _
          simp only [putAll, Act.put, List.setIfInBounds_toArray, List.set_cons_zero, List.set_cons_succ]
          rfl
        refine pure_ (i := 7) (N := some 9) (v := ?_) (a' := ?_) #[true, true, true, true, true, true, true, true, false, false, false, false, false] rfl rfl (by kernel_rfl) (fun _ _ _ h => h) (Or.inl ⟨by rfl, ?_⟩) ?_ ?_
        rotate_left
        · intro w'
          go_simp
          with_reducible rfl
        rotate_left
        · simp only [putAll, Act.put, List.setIfInBounds_toArray, List.set_cons_zero, List.set_cons_succ]
          rfl
        refine pure_ (i := 8) (N := some 17) (v := ?_) (a' := ?_) #[true, true, true, true, true, true, true, true, true, false, false, false, false] rfl rfl (by kernel_rfl) (fun _ _ _ h => h) (Or.inl ⟨by rfl, ?_⟩) ?_ ?_
        rotate_left
        · intro w'
          go_simp
          with_reducible rfl
        rotate_left
        · simp only [putAll, Act.put, List.setIfInBounds_toArray, List.set_cons_zero, List.set_cons_succ]
          rfl
        refine pure_ (i := 9) (N := some 18) (v := ?_) (a' := ?_) #[true, true, true, true, true, true, true, true, true, true, false, false, false] rfl rfl (by kernel_rfl) (fun _ _ _ h => h) (Or.inl ⟨by rfl, ?_⟩) ?_ ?_
        rotate_left
        · intro w'
          go_simp
          with_reducible rfl
        rotate_left
        · simp only [putAll, Act.put, List.setIfInBounds_toArray, List.set_cons_zero, List.set_cons_succ]
          rfl
        exact norm_ (by simp only [putAll, Act.put, List.setIfInBounds_toArray, List.set_cons_zero, List.set_cons_succ]) (hC103 (gl, 0, gr, A3, c3, A4, c4, E3, e3, E4, e4) _ ⟨hHeld, blk_below HGL.out hbr, hvr⟩)
      · skip
        have hbt := hHeld.2.2.2.2.2.2.2.2.2.2.2
        go_simp
        refine hK.out _ _ (hHeld.alloc _) (fun hHeld => ?_)
        clear hK K
        exact norm_ (by simp only [putAll, Act.put, List.setIfInBounds_toArray, List.set_cons_zero, List.set_cons_succ]) (hC112 (gl, wj.heap.size, gr, A3, c3, A4, c4, none, 0, none, 0) _ ⟨hHeld, blk_alloc HGL.out _, ⟨blk_newR _ _ rfl, Nat.le_of_lt (Nat.lt_of_succ_lt hbt)⟩, RT.below HRT.out (below_alloc (Below.refl _ _) _), blk_alloc HGR.out _⟩)
    intro hC102
    refine join_ (σ := Nat × Nat × Nat × Option Addr × Nat × Option Addr × Nat × Option Addr × Nat × Option Addr × Nat) 8 #[true, true, true, true, false, false, false, false, false, false, true, false, false] (fun s_ => [(10, .slice (some ⟨s_.1, 0, none⟩) 2 2), (3, .pointer (some ⟨s_.2.1, 0, none⟩))]) (fun s_ w' => S0 w w' ∧ w'.heap[s_.1]? = some (Obj.cells #[.string ⟨#[98]⟩, .string ⟨#[97]⟩] 9 (0, 0)) ∧ (Plain w' s_.2.1 ∧ w.heap.size ≤ s_.2.1)) ?_ ?_
    · skip
      rintro ⟨gl, bt, gr, A3, c3, A4, c4, E3, e3, E4, e4⟩ wj hj
      obtain ⟨hHeld, hgl, ⟨hpl, hpb⟩⟩ := hj
      dsimp only at hgl hpl hpb
      have HGL := Aside0.mk hgl
      have HPL := Aside0.mk hpl
      have HPB := Aside0.mk hpb
      clear hgl hpl hpb
      refine norm_ (a' := ?_) ?_ ?_
      rotate_left
      · simp only [putAll, Act.put, List.setIfInBounds_toArray, List.set_cons_zero, List.set_cons_succ]
        rfl
      refine one_ (i := 4) (N := some 14) #[true, true, true, true, true, false, false, false, false, false, true, false, false] rfl rfl (by kernel_rfl) (by decide) (fun K hK => ?_)
      refine goes_ Try.func44 (by kernel_rfl) rfl #[.agg #[.int .i64 6, .int .i64 0, .string ⟨#[88]⟩, .slice none 0 0, .slice none 0 0], .agg #[.int .i64 1, .int .i64 0, .string ⟨#[]⟩, .slice none 0 0, .slice none 0 0]] (by rfl) rfl rfl (by (try simp only [List.map_toArray, List.map_cons, List.map_nil]); first | done | rfl) ?_
      with_reducible refine (fun_awake _).mono ?_
      rintro e wf ⟨⟨A3, c3, A4, c4, rfl, hvf⟩, hbf⟩
      refine ⟨_, rfl, ?_⟩
      refine hK.out _ _ (hHeld.call hbf) (fun hHeld => ?_)
      clear hK K
      refine norm_ (a' := ?_) ?_ ?_
      rotate_left
      · show Act.put _ (some 14) _ = _
        simp only [putAll, Act.put, List.setIfInBounds_toArray, List.set_cons_zero, List.set_cons_succ]
        rfl
      exact norm_ (by simp only [putAll, Act.put, List.setIfInBounds_toArray, List.set_cons_zero, List.set_cons_succ]) (hC111 (gl, bt, 0, A3, c3, A4, c4, none, 0, none, 0) _ ⟨hHeld, blk_below HGL.out hbf, ⟨blk_below HPL.out hbf, HPB.out⟩, hvf.out⟩)
    intro hC110
    refine join_ (σ := Nat × Nat × Nat × Option Addr × Nat × Option Addr × Nat × Option Addr × Nat × Option Addr × Nat) 8 #[false, true, true, true, true, false, false, false, false, false, true, false, false] (fun s_ => [(3, .pointer (some ⟨s_.2.1, 0, none⟩)), (14, Value.agg #[.int .i64 7, .int .i64 0, .string ⟨#[]⟩, .slice s_.2.2.2.1 0 s_.2.2.2.2.1, .slice s_.2.2.2.2.2.1 2 s_.2.2.2.2.2.2.1])]) (fun s_ w' => S0 w w' ∧ (Plain w' s_.2.1 ∧ w.heap.size ≤ s_.2.1) ∧ RT w' (Value.agg #[.int .i64 7, .int .i64 0, .string ⟨#[]⟩, .slice s_.2.2.2.1 0 s_.2.2.2.2.1, .slice s_.2.2.2.2.2.1 2 s_.2.2.2.2.2.2.1]) (funT tX tI)) ?_ ?_
    · skip
      rintro ⟨gl, bt, gr, A3, c3, A4, c4, E3, e3, E4, e4⟩ wj hj
      obtain ⟨hHeld, ⟨hpl, hpb⟩, hrt⟩ := hj
      dsimp only at hpl hpb hrt
      have HPL := Aside0.mk hpl
      have HPB := Aside0.mk hpb
      have HRT := Aside0.mk hrt
      clear hpl hpb hrt
      refine norm_ (a' := ?_) ?_ ?_
      rotate_left
      · simp only [putAll, Act.put, List.setIfInBounds_toArray, List.set_cons_zero, List.set_cons_succ]
        rfl
      refine two_ (i := 0) (j := 5) (Ni := some 10) (Nj := some 15) #[true, true, true, true, true, false, false, false, false, false, true, false, false] #[false, true, true, true, true, true, false, false, false, false, true, false, false] rfl rfl rfl rfl (by kernel_rfl) (by decide) (by decide) (fun K hK => ?_) (fun K hK => ?_)
      · skip
        go_simp
        refine hK.out _ _ (hHeld.alloc _) (fun hHeld => ?_)
        clear hK K
        exact norm_ (by simp only [putAll, Act.put, List.setIfInBounds_toArray, List.set_cons_zero, List.set_cons_succ]) (hC111 (wj.heap.size, bt, 0, A3, c3, A4, c4, none, 0, none, 0) _ ⟨hHeld, blk_newR _ _ rfl, ⟨blk_alloc HPL.out _, HPB.out⟩, RT.below HRT.out (below_alloc (Below.refl _ _) _)⟩)
      · skip
        go_simp
        refine hK.out _ _ (hHeld.alloc _) (fun hHeld => ?_)
        clear hK K
        exact norm_ (by simp only [putAll, Act.put, List.setIfInBounds_toArray, List.set_cons_zero, List.set_cons_succ]) (hC012 (0, bt, wj.heap.size, A3, c3, A4, c4, none, 0, none, 0) _ ⟨hHeld, ⟨blk_alloc HPL.out _, HPB.out⟩, RT.below HRT.out (below_alloc (Below.refl _ _) _), blk_newR _ _ rfl⟩)
    intro hC011
    refine join_ (σ := Nat × Nat × Nat × Option Addr × Nat × Option Addr × Nat × Option Addr × Nat × Option Addr × Nat) 8 #[true, true, true, true, true, false, false, false, false, false, false, false, false] (fun s_ => [(10, .slice (some ⟨s_.1, 0, none⟩) 2 2), (14, Value.agg #[.int .i64 7, .int .i64 0, .string ⟨#[]⟩, .slice s_.2.2.2.1 0 s_.2.2.2.2.1, .slice s_.2.2.2.2.2.1 2 s_.2.2.2.2.2.2.1])]) (fun s_ w' => S0 w w' ∧ w'.heap[s_.1]? = some (Obj.cells #[.string ⟨#[98]⟩, .string ⟨#[97]⟩] 9 (0, 0)) ∧ RT w' (Value.agg #[.int .i64 7, .int .i64 0, .string ⟨#[]⟩, .slice s_.2.2.2.1 0 s_.2.2.2.2.1, .slice s_.2.2.2.2.2.1 2 s_.2.2.2.2.2.2.1]) (funT tX tI)) ?_ ?_
    · skip
      rintro ⟨gl, bt, gr, A3, c3, A4, c4, E3, e3, E4, e4⟩ wj hj
      obtain ⟨hHeld, hgl, hrt⟩ := hj
      dsimp only at hgl hrt
      have HGL := Aside0.mk hgl
      have HRT := Aside0.mk hrt
      clear hgl hrt
      refine norm_ (a' := ?_) ?_ ?_
      rotate_left
      · simp only [putAll, Act.put, List.setIfInBounds_toArray, List.set_cons_zero, List.set_cons_succ]
        rfl
      refine two_ (i := 5) (j := 10) (Ni := some 15) (Nj := some 3) #[true, true, true, true, true, true, false, false, false, false, false, false, false] #[true, true, true, true, true, false, false, false, false, false, true, false, false] rfl rfl rfl rfl (by kernel_rfl) (by decide) (by decide) (fun K hK => ?_) (fun K hK => ?_)
      · skip
        go_simp
        refine hK.out _ _ (hHeld.alloc _) (fun hHeld => ?_)
        clear hK K
        exact norm_ (by simp only [putAll, Act.put, List.setIfInBounds_toArray, List.set_cons_zero, List.set_cons_succ]) (hC102 (gl, 0, wj.heap.size, A3, c3, A4, c4, none, 0, none, 0) _ ⟨hHeld, blk_alloc HGL.out _, RT.below HRT.out (below_alloc (Below.refl _ _) _), blk_newR _ _ rfl⟩)
      · skip
        have hbt := hHeld.2.2.2.2.2.2.2.2.2.2.2
        go_simp
        refine hK.out _ _ (hHeld.alloc _) (fun hHeld => ?_)
        clear hK K
        exact norm_ (by simp only [putAll, Act.put, List.setIfInBounds_toArray, List.set_cons_zero, List.set_cons_succ]) (hC111 (gl, wj.heap.size, 0, A3, c3, A4, c4, none, 0, none, 0) _ ⟨hHeld, blk_alloc HGL.out _, ⟨blk_newR _ _ rfl, Nat.le_of_lt (Nat.lt_of_succ_lt hbt)⟩, RT.below HRT.out (below_alloc (Below.refl _ _) _)⟩)
    intro hC101
    refine join_ (σ := Nat × Nat × Nat × Option Addr × Nat × Option Addr × Nat × Option Addr × Nat × Option Addr × Nat) 8 #[false, true, true, true, true, true, false, false, false, false, false, false, false] (fun s_ => [(14, Value.agg #[.int .i64 7, .int .i64 0, .string ⟨#[]⟩, .slice s_.2.2.2.1 0 s_.2.2.2.2.1, .slice s_.2.2.2.2.2.1 2 s_.2.2.2.2.2.2.1]), (15, .slice (some ⟨s_.2.2.1, 0, none⟩) 2 2)]) (fun s_ w' => S0 w w' ∧ RT w' (Value.agg #[.int .i64 7, .int .i64 0, .string ⟨#[]⟩, .slice s_.2.2.2.1 0 s_.2.2.2.2.1, .slice s_.2.2.2.2.2.1 2 s_.2.2.2.2.2.2.1]) (funT tX tI) ∧ w'.heap[s_.2.2.1]? = some (Obj.cells #[.int .i64 1, .int .i64 0, .string ⟨#[]⟩, .slice none 0 0, .slice none 0 0, .int .i64 7, .int .i64 0, .string ⟨#[]⟩, .slice s_.2.2.2.1 0 s_.2.2.2.2.1, .slice s_.2.2.2.2.2.1 2 s_.2.2.2.2.2.2.1] 26 (0, 0))) ?_ ?_
    · skip
      rintro ⟨gl, bt, gr, A3, c3, A4, c4, E3, e3, E4, e4⟩ wj hj
      obtain ⟨hHeld, hrt, hgr⟩ := hj
      dsimp only at hrt hgr
      have HRT := Aside0.mk hrt
      have HGR := Aside0.mk hgr
      clear hrt hgr
      refine norm_ (a' := ?_) ?_ ?_
      rotate_left
      · simp only [putAll, Act.put, List.setIfInBounds_toArray, List.set_cons_zero, List.set_cons_succ]
        rfl
      refine two_ (i := 0) (j := 10) (Ni := some 10) (Nj := some 3) #[true, true, true, true, true, true, false, false, false, false, false, false, false] #[false, true, true, true, true, true, false, false, false, false, true, false, false] rfl rfl rfl rfl (by kernel_rfl) (by decide) (by decide) (fun K hK => ?_) (fun K hK => ?_)
      · skip
        go_simp
        refine hK.out _ _ (hHeld.alloc _) (fun hHeld => ?_)
        clear hK K
        exact norm_ (by simp only [putAll, Act.put, List.setIfInBounds_toArray, List.set_cons_zero, List.set_cons_succ]) (hC102 (wj.heap.size, 0, gr, A3, c3, A4, c4, none, 0, none, 0) _ ⟨hHeld, blk_newR _ _ rfl, RT.below HRT.out (below_alloc (Below.refl _ _) _), blk_alloc HGR.out _⟩)
      · skip
        have hbt := hHeld.2.2.2.2.2.2.2.2.2.2.2
        go_simp
        refine hK.out _ _ (hHeld.alloc _) (fun hHeld => ?_)
        clear hK K
        exact norm_ (by simp only [putAll, Act.put, List.setIfInBounds_toArray, List.set_cons_zero, List.set_cons_succ]) (hC012 (0, wj.heap.size, gr, A3, c3, A4, c4, none, 0, none, 0) _ ⟨hHeld, ⟨blk_newR _ _ rfl, Nat.le_of_lt (Nat.lt_of_succ_lt hbt)⟩, RT.below HRT.out (below_alloc (Below.refl _ _) _), blk_alloc HGR.out _⟩)
    intro hC002
    refine join_ (σ := Nat × Nat × Nat × Option Addr × Nat × Option Addr × Nat × Option Addr × Nat × Option Addr × Nat) 9 #[false, true, true, true, false, false, false, false, false, false, true, false, false] (fun s_ => [(3, .pointer (some ⟨s_.2.1, 0, none⟩))]) (fun s_ w' => S0 w w' ∧ (Plain w' s_.2.1 ∧ w.heap.size ≤ s_.2.1)) ?_ ?_
    · skip
      rintro ⟨gl, bt, gr, A3, c3, A4, c4, E3, e3, E4, e4⟩ wj hj
      obtain ⟨hHeld, ⟨hpl, hpb⟩⟩ := hj
      dsimp only at hpl hpb
      have HPL := Aside0.mk hpl
      have HPB := Aside0.mk hpb
      clear hpl hpb
      refine norm_ (a' := ?_) ?_ ?_
      rotate_left
      · simp only [putAll, Act.put, List.setIfInBounds_toArray, List.set_cons_zero, List.set_cons_succ]
        rfl
      refine two_ (i := 0) (j := 4) (Ni := some 10) (Nj := some 14) #[true, true, true, true, false, false, false, false, false, false, true, false, false] #[false, true, true, true, true, false, false, false, false, false, true, false, false] rfl rfl rfl rfl (by kernel_rfl) (by decide) (by decide) (fun K hK => ?_) (fun K hK => ?_)
      · skip
        go_simp
        refine hK.out _ _ (hHeld.alloc _) (fun hHeld => ?_)
        clear hK K
        exact norm_ (by simp only [putAll, Act.put, List.setIfInBounds_toArray, List.set_cons_zero, List.set_cons_succ]) (hC110 (wj.heap.size, bt, 0, none, 0, none, 0, none, 0, none, 0) _ ⟨hHeld, blk_newR _ _ rfl, ⟨blk_alloc HPL.out _, HPB.out⟩⟩)
      · skip
        refine goes_ Try.func44 (by kernel_rfl) rfl #[.agg #[.int .i64 6, .int .i64 0, .string ⟨#[88]⟩, .slice none 0 0, .slice none 0 0], .agg #[.int .i64 1, .int .i64 0, .string ⟨#[]⟩, .slice none 0 0, .slice none 0 0]] (by rfl) rfl rfl (by (try simp only [List.map_toArray, List.map_cons, List.map_nil]); first | done | rfl) ?_
        with_reducible refine (fun_awake _).mono ?_
        rintro e wf ⟨⟨A3, c3, A4, c4, rfl, hvf⟩, hbf⟩
        refine ⟨_, rfl, ?_⟩
        refine hK.out _ _ (hHeld.call hbf) (fun hHeld => ?_)
        clear hK K
        refine norm_ (a' := ?_) ?_ ?_
        rotate_left
        · show Act.put _ (some 14) _ = _
          simp only [putAll, Act.put, List.setIfInBounds_toArray, List.set_cons_zero, List.set_cons_succ]
          rfl
        exact norm_ (by simp only [putAll, Act.put, List.setIfInBounds_toArray, List.set_cons_zero, List.set_cons_succ]) (hC011 (0, bt, 0, A3, c3, A4, c4, none, 0, none, 0) _ ⟨hHeld, ⟨blk_below HPL.out hbf, HPB.out⟩, hvf.out⟩)
    intro hC010
    refine join_ (σ := Nat × Nat × Nat × Option Addr × Nat × Option Addr × Nat × Option Addr × Nat × Option Addr × Nat) 9 #[true, true, true, true, false, false, false, false, false, false, false, false, false] (fun s_ => [(10, .slice (some ⟨s_.1, 0, none⟩) 2 2)]) (fun s_ w' => S0 w w' ∧ w'.heap[s_.1]? = some (Obj.cells #[.string ⟨#[98]⟩, .string ⟨#[97]⟩] 9 (0, 0))) ?_ ?_
    · skip
      rintro ⟨gl, bt, gr, A3, c3, A4, c4, E3, e3, E4, e4⟩ wj hj
      obtain ⟨hHeld, hgl⟩ := hj
      dsimp only at hgl
      have HGL := Aside0.mk hgl
      clear hgl
      refine norm_ (a' := ?_) ?_ ?_
      rotate_left
      · simp only [putAll, Act.put, List.setIfInBounds_toArray, List.set_cons_zero, List.set_cons_succ]
        rfl
      refine two_ (i := 4) (j := 10) (Ni := some 14) (Nj := some 3) #[true, true, true, true, true, false, false, false, false, false, false, false, false] #[true, true, true, true, false, false, false, false, false, false, true, false, false] rfl rfl rfl rfl (by kernel_rfl) (by decide) (by decide) (fun K hK => ?_) (fun K hK => ?_)
      · skip
        refine goes_ Try.func44 (by kernel_rfl) rfl #[.agg #[.int .i64 6, .int .i64 0, .string ⟨#[88]⟩, .slice none 0 0, .slice none 0 0], .agg #[.int .i64 1, .int .i64 0, .string ⟨#[]⟩, .slice none 0 0, .slice none 0 0]] (by rfl) rfl rfl (by (try simp only [List.map_toArray, List.map_cons, List.map_nil]); first | done | rfl) ?_
        with_reducible refine (fun_awake _).mono ?_
        rintro e wf ⟨⟨A3, c3, A4, c4, rfl, hvf⟩, hbf⟩
        refine ⟨_, rfl, ?_⟩
        refine hK.out _ _ (hHeld.call hbf) (fun hHeld => ?_)
        clear hK K
        refine norm_ (a' := ?_) ?_ ?_
        rotate_left
        · show Act.put _ (some 14) _ = _
          simp only [putAll, Act.put, List.setIfInBounds_toArray, List.set_cons_zero, List.set_cons_succ]
          rfl
        exact norm_ (by simp only [putAll, Act.put, List.setIfInBounds_toArray, List.set_cons_zero, List.set_cons_succ]) (hC101 (gl, 0, 0, A3, c3, A4, c4, none, 0, none, 0) _ ⟨hHeld, blk_below HGL.out hbf, hvf.out⟩)
      · skip
        have hbt := hHeld.2.2.2.2.2.2.2.2.2.2.2
        go_simp
        refine hK.out _ _ (hHeld.alloc _) (fun hHeld => ?_)
        clear hK K
        exact norm_ (by simp only [putAll, Act.put, List.setIfInBounds_toArray, List.set_cons_zero, List.set_cons_succ]) (hC110 (gl, wj.heap.size, 0, none, 0, none, 0, none, 0, none, 0) _ ⟨hHeld, blk_alloc HGL.out _, ⟨blk_newR _ _ rfl, Nat.le_of_lt (Nat.lt_of_succ_lt hbt)⟩⟩)
    intro hC100
    refine join_ (σ := Nat × Nat × Nat × Option Addr × Nat × Option Addr × Nat × Option Addr × Nat × Option Addr × Nat) 9 #[false, true, true, true, true, false, false, false, false, false, false, false, false] (fun s_ => [(14, Value.agg #[.int .i64 7, .int .i64 0, .string ⟨#[]⟩, .slice s_.2.2.2.1 0 s_.2.2.2.2.1, .slice s_.2.2.2.2.2.1 2 s_.2.2.2.2.2.2.1])]) (fun s_ w' => S0 w w' ∧ RT w' (Value.agg #[.int .i64 7, .int .i64 0, .string ⟨#[]⟩, .slice s_.2.2.2.1 0 s_.2.2.2.2.1, .slice s_.2.2.2.2.2.1 2 s_.2.2.2.2.2.2.1]) (funT tX tI)) ?_ ?_
    · skip
      rintro ⟨gl, bt, gr, A3, c3, A4, c4, E3, e3, E4, e4⟩ wj hj
      obtain ⟨hHeld, hrt⟩ := hj
      dsimp only at hrt
      have HRT := Aside0.mk hrt
      clear hrt
      refine norm_ (a' := ?_) ?_ ?_
      rotate_left
      · simp only [putAll, Act.put, List.setIfInBounds_toArray, List.set_cons_zero, List.set_cons_succ]
        rfl
      refine three_ (i := 0) (j := 5) (k := 10) (Ni := some 10) (Nj := some 15) (Nk := some 3) #[true, true, true, true, true, false, false, false, false, false, false, false, false] #[false, true, true, true, true, true, false, false, false, false, false, false, false] #[false, true, true, true, true, false, false, false, false, false, true, false, false] rfl rfl rfl rfl rfl rfl (by kernel_rfl) (by decide) (by decide) (by decide) (fun K hK => ?_) (fun K hK => ?_) (fun K hK => ?_)
      · skip
        go_simp
        refine hK.out _ _ (hHeld.alloc _) (fun hHeld => ?_)
        clear hK K
        exact norm_ (by simp only [putAll, Act.put, List.setIfInBounds_toArray, List.set_cons_zero, List.set_cons_succ]) (hC101 (wj.heap.size, 0, 0, A3, c3, A4, c4, none, 0, none, 0) _ ⟨hHeld, blk_newR _ _ rfl, RT.below HRT.out (below_alloc (Below.refl _ _) _)⟩)
      · skip
        go_simp
        refine hK.out _ _ (hHeld.alloc _) (fun hHeld => ?_)
        clear hK K
        exact norm_ (by simp only [putAll, Act.put, List.setIfInBounds_toArray, List.set_cons_zero, List.set_cons_succ]) (hC002 (0, 0, wj.heap.size, A3, c3, A4, c4, none, 0, none, 0) _ ⟨hHeld, RT.below HRT.out (below_alloc (Below.refl _ _) _), blk_newR _ _ rfl⟩)
      · skip
        have hbt := hHeld.2.2.2.2.2.2.2.2.2.2.2
        go_simp
        refine hK.out _ _ (hHeld.alloc _) (fun hHeld => ?_)
        clear hK K
        exact norm_ (by simp only [putAll, Act.put, List.setIfInBounds_toArray, List.set_cons_zero, List.set_cons_succ]) (hC011 (0, wj.heap.size, 0, A3, c3, A4, c4, none, 0, none, 0) _ ⟨hHeld, ⟨blk_newR _ _ rfl, Nat.le_of_lt (Nat.lt_of_succ_lt hbt)⟩, RT.below HRT.out (below_alloc (Below.refl _ _) _)⟩)
    intro hC001
    refine three_ (i := 0) (j := 4) (k := 10) (Ni := some 10) (Nj := some 14) (Nk := some 3) #[true, true, true, true, false, false, false, false, false, false, false, false, false] #[false, true, true, true, true, false, false, false, false, false, false, false, false] #[false, true, true, true, false, false, false, false, false, false, true, false, false] rfl rfl rfl rfl rfl rfl (by kernel_rfl) (by decide) (by decide) (by decide) (fun K hK => ?_) (fun K hK => ?_) (fun K hK => ?_)
    · skip
      go_simp
      refine hK.out _ _ (hHeld.alloc _) (fun hHeld => ?_)
      clear hK K
      exact norm_ (by simp only [putAll, Act.put, List.setIfInBounds_toArray, List.set_cons_zero, List.set_cons_succ]) (hC100 (wd.heap.size, 0, 0, none, 0, none, 0, none, 0, none, 0) _ ⟨hHeld, blk_newR _ _ rfl⟩)
    · skip
      refine goes_ Try.func44 (by kernel_rfl) rfl #[.agg #[.int .i64 6, .int .i64 0, .string ⟨#[88]⟩, .slice none 0 0, .slice none 0 0], .agg #[.int .i64 1, .int .i64 0, .string ⟨#[]⟩, .slice none 0 0, .slice none 0 0]] (by rfl) rfl rfl (by (try simp only [List.map_toArray, List.map_cons, List.map_nil]); first | done | rfl) ?_
      with_reducible refine (fun_awake _).mono ?_
      rintro e wf ⟨⟨A3, c3, A4, c4, rfl, hvf⟩, hbf⟩
      refine ⟨_, rfl, ?_⟩
      refine hK.out _ _ (hHeld.call hbf) (fun hHeld => ?_)
      clear hK K
      refine norm_ (a' := ?_) ?_ ?_
      rotate_left
      · show Act.put _ (some 14) _ = _
        simp only [putAll, Act.put, List.setIfInBounds_toArray, List.set_cons_zero, List.set_cons_succ]
        rfl
      exact norm_ (by simp only [putAll, Act.put, List.setIfInBounds_toArray, List.set_cons_zero, List.set_cons_succ]) (hC001 (0, 0, 0, A3, c3, A4, c4, none, 0, none, 0) _ ⟨hHeld, hvf.out⟩)
    · skip
      have hbt := hHeld.2.2.2.2.2.2.2.2.2.2.2
      go_simp
      refine hK.out _ _ (hHeld.alloc _) (fun hHeld => ?_)
      clear hK K
      exact norm_ (by simp only [putAll, Act.put, List.setIfInBounds_toArray, List.set_cons_zero, List.set_cons_succ]) (hC010 (0, wd.heap.size, 0, none, 0, none, 0, none, 0, none, 0) _ ⟨hHeld, ⟨blk_newR _ _ rfl, Nat.le_of_lt (Nat.lt_of_succ_lt hbt)⟩⟩)
  case rest =>
    have hrel : ∃ (bt : Nat) (A3 : Option Addr) (c3 : Nat) (A4 : Option Addr) (c4 : Nat), u3 = .pointer (some ⟨bt, 0, none⟩) ∧ u4 = .bool true ∧ Aside0 (wc.heap[bt]? = some (.cells #[.int .i64 8, .int .i64 0, .string ⟨#[]⟩, .slice A3 2 c3, .slice A4 2 c4] 26 (0, 0))) ∧ Aside0 (RT wc (.agg #[.int .i64 8, .int .i64 0, .string ⟨#[]⟩, .slice A3 2 c3, .slice A4 2 c4]) tA) ∧ Aside0 (Below w.heap.size w wc) := by assumption
    obtain ⟨bt, A3, c3, A4, c4, rfl, rfl, HT, HRT, HB⟩ := hrel
    have HP := Aside0.mk (fun (W : World) (hb : Below wc.heap.size wc W) => parts_of (HRT.out.below hb))
    have HWc := Aside0.mk (Below.refl wc.heap.size wc)
    obtain ⟨t0c, t1c, t2c, t3c, t4c⟩ := tcells HT.out (Below.refl _ _)
    go_wp2_with (first | (go_at_call 42; refine ((HP.out _ HWc.out).fld).mono ?_; rintro e w1 ⟨⟨B3, d3, B4, d4, rfl⟩, hb1⟩; have HW1 := Aside0.mk (HWc.out.trans (hb1.mono HWc.out.size)); obtain ⟨t01, t11, t21, t31, t41⟩ := tcells HT.out HW1.out; have hbz : bt < w1.heap.size := (World.block_lt_of_cell? w1 _ t01); have HW1a := Aside0.mk (HW1.out.alloc HW1.out.size (.cells #[.int .i64 1, .int .i64 0, .string ⟨#[]⟩, .slice B3 0 d3, .slice B4 0 d4] 26)); clear hb1) | (go_at_call 26; refine ((HP.out _ HW1a.out).rgt).mono ?_; rintro e w2 ⟨rfl, hb2⟩; have HW2 := Aside0.mk (HW1a.out.trans (hb2.mono HW1a.out.size)); obtain ⟨t02, t12, t22, t32, t42⟩ := tcells HT.out HW2.out; have HF2 := Aside0.mk (blk_below (blk_new w1 (.cells #[.int .i64 1, .int .i64 0, .string ⟨#[]⟩, .slice B3 0 d3, .slice B4 0 d4] 26)) hb2); have f2 := blk_cell HF2.out 0; simp at f2; clear hb2) | (go_at_call 27; refine ((HP.out _ HW2.out).nds).mono ?_; rintro e w3 ⟨rfl, hb3⟩; have HW3 := Aside0.mk (HW2.out.trans (hb3.mono HW2.out.size)); obtain ⟨t03, t13, t23, t33, t43⟩ := tcells HT.out HW3.out; have HF3 := Aside0.mk (blk_below HF2.out hb3); have f3 := blk_cell HF3.out 0; simp at f3; clear hb3) | (go_at_call 29; refine ((HP.out _ HW3.out).dep).mono ?_; rintro e w4 ⟨rfl, hb4⟩; have HW4 := Aside0.mk (HW3.out.trans (hb4.mono HW3.out.size)); obtain ⟨t04, t14, t24, t34, t44⟩ := tcells HT.out HW4.out; have HF4 := Aside0.mk (blk_below HF3.out hb4); have f4 := blk_cell HF4.out 0; simp at f4; clear hb4) | (go_at_call 33; refine ((HP.out _ HW4.out).vrs).mono ?_; rintro e w5 ⟨⟨AV, cv, rfl⟩, hb5⟩; have HW5 := Aside0.mk (HW4.out.trans (hb5.mono HW4.out.size)); obtain ⟨t05, t15, t25, t35, t45⟩ := tcells HT.out HW5.out; have HF5 := Aside0.mk (blk_below HF4.out hb5); have f5 := blk_cell HF5.out 0; simp at f5; clear hb5) | (go_at_call 35; refine ((HP.out _ HW5.out).fit).mono ?_; rintro e w6 ⟨rfl, hb6⟩; have HW6 := Aside0.mk (HW5.out.trans (hb6.mono HW5.out.size)); obtain ⟨t06, t16, t26, t36, t46⟩ := tcells HT.out HW6.out; have HF6 := Aside0.mk (blk_below HF5.out hb6); have f6 := blk_cell HF6.out 0; simp at f6; clear hb6) | (go_at_call 37; refine ((HP.out _ HW6.out).sme).mono ?_; rintro e w7 ⟨rfl, hb7⟩; have HW7 := Aside0.mk (HW6.out.trans (hb7.mono HW6.out.size)); obtain ⟨t07, t17, t27, t37, t47⟩ := tcells HT.out HW7.out; have HF7 := Aside0.mk (blk_below HF6.out hb7); have f7 := blk_cell HF7.out 0; simp at f7; clear hb7) | (go_at_call 31; refine ((HP.out _ HW7.out).has).mono ?_; rintro e w8 ⟨rfl, hb8⟩; have HW8 := Aside0.mk (HW7.out.trans (hb8.mono HW7.out.size)); obtain ⟨t08, t18, t28, t38, t48⟩ := tcells HT.out HW8.out; have HF8 := Aside0.mk (blk_below HF7.out hb8); have f8 := blk_cell HF8.out 0; simp at f8; clear hb8))
    go_ret
    exact ⟨rfl, HB.out.trans (HW8.out.mono HB.out.size)⟩
end Go.Proofs.Ytkeeknlfommieaa.PF
namespace Go.Proofs.Ytkeeknlfommieaa.PF
open Go.RowKit Go.Shelf Go.Proofs.YtkeeknlfommieaaW.PrintWords Go.Proofs.YtkeeknlfommieaaW.PrintLast Go.Proofs.YtkeeknlfommieaaW.PrintMore

theorem rsame_l0 (l m : List ByteArray) (h : l.length = m.length) (hl : l.length ≤ 9223372036854775807) : ∀ (d i k : Nat), i + d = l.length → 2 * d + 1 < k → limbeckref01_Same.l0 k l m i = some (eqB (l.drop i) (m.drop i)) := by
  intro d
  induction d with
  | zero =>
    intro i k hi hk
    obtain ⟨k, rfl⟩ : ∃ q, k = q + 1 + 1 := ⟨k - 2, by omega⟩
    rw [limbeckref01_Same.l0, if_neg (by omega), List.drop_eq_nil_of_le (by omega), List.drop_eq_nil_of_le (by omega), eqB_self, limbeckref01_Same.j1]
    rfl
  | succ d ih =>
    intro i k hi hk
    obtain ⟨k, rfl⟩ : ∃ q, k = q + 1 + 1 := ⟨k - 2, by omega⟩
    rw [limbeckref01_Same.l0, if_pos (by omega), limbeckref01_Same.j1, if_pos (by simp; omega), if_pos (by omega), if_pos (by omega), if_pos (by omega), rdS_getElem l i (by omega), rdS_getElem m i (by omega), drop_head l i (by omega), drop_head m i (by omega)]
    by_cases e : l[i] = m[i]
    · rw [if_pos (by rw [e]), show wrap64 ((i : Int) + 1) = ((i + 1 : Nat) : Int) from by unfold wrap64; omega, ih (i + 1) k (by omega) (by omega)]
      exact congrArg some (eqB_congr ⟨fun h2 => by rw [e, h2], fun h2 => (List.cons.inj h2).2⟩)
    · rw [if_neg (fun h => e (bytes_ext h))]
      exact congrArg some (eqB_false (fun h2 => e (List.cons.inj h2).1)).symm
theorem rsameS_calls (A0 : Option Addr) (c0 : Nat) (l0 : List ByteArray) (A1 : Option Addr) (c1 : Nat) (l1 : List ByteArray) (w : World) (hr0 : Kd.C Kd.string w A0 l0.length l0) (hc0 : l0.length ≤ c0) (hr1 : Kd.C Kd.string w A1 l1.length l1) (hc1 : l1.length ≤ c1) :
    Calls Try.prog 32 #[.slice A0 l0.length c0, .slice A1 l1.length c1] w fun e w' => e = .returned (.bool (eqB l0 l1)) ∧ Below w.heap.size w w' := by
  have hf : limbeckref01_Same.f (2 * l0.length + 2) l0 l1 = some (eqB l0 l1) := by
    unfold limbeckref01_Same.f
    by_cases h : l0.length = l1.length
    · rw [if_pos (by omega)]
      simpa using rsame_l0 l0 l1 h hr0.2.1 l0.length 0 (2 * l0.length + 2) (by omega) (by omega)
    · rw [if_neg (by omega), eqB_false (fun e => h (by rw [e]))]
  exact (limbeckref01_Same.calls _ A0 c0 l0 A1 c1 l1 _ w hr0 hc0 hr1 hc1 hf).mono fun e w' ⟨he, hd⟩ => ⟨he, hd.below⟩

def RSame (x : S26) : Prop := ∀ (y : S26) (w : World) (A3 : Option Addr) (c3 : Nat) (A4 : Option Addr) (c4 : Nat) (B3 : Option Addr) (d3 : Nat) (B4 : Option Addr) (d4 : Nat) (_ : x.f3.length ≤ c3) (_ : Kd.string.C w A3 x.f3.length x.f3) (_ : x.f4.length ≤ c4) (_ : k26.C w A4 x.f4.length x.f4) (_ : y.f3.length ≤ d3) (_ : Kd.string.C w B3 y.f3.length y.f3) (_ : y.f4.length ≤ d4) (_ : k26.C w B4 y.f4.length y.f4),
    Calls Try.prog 38 #[.agg #[.int .i64 x.f0, .int .i64 x.f1, .string x.f2, .slice A3 x.f3.length c3, .slice A4 x.f4.length c4], .agg #[.int .i64 y.f0, .int .i64 y.f1, .string y.f2, .slice B3 y.f3.length d3, .slice B4 y.f4.length d4]] w fun e w' => e = .returned (.bool (eqB x y)) ∧ Below w.heap.size w w'

set_option maxRecDepth 100000 in
set_option maxHeartbeats 2000000 in
theorem rsame_calls (x : S26) : RSame x := by
  induction x using S26.ind with
  | h k n nm ls ar ih =>
  intro y w A3 c3 A4 c4 B3 d3 B4 d4 l3 g3 l4 g4 m3 f3 m4 f4
  obtain ⟨k', n', nm', ls', ar'⟩ := y
  dsimp only at l3 g3 l4 g4 m3 f3 m4 f4 ⊢
  have HI := Aside0.mk (s26_iff ⟨k, n, nm, ls, ar⟩ ⟨k', n', nm', ls', ar'⟩)
  have HE := Aside0.mk (fun (W : World) (hb : Below w.heap.size w W) => rsameS_calls A3 c3 ls B3 d3 ls' W (Kd.C_below g3 hb) l3 (Kd.C_below f3 hb) m3)
  have HX := Aside0.mk g4
  have HY := Aside0.mk f4
  have HIH := Aside0.mk ih
  have hlx := g4.2.1
  have hly := f4.2.1
  clear ih l3 g3 l4 g4 m3 f3 m4 f4
  have H2 := Aside0.mk (fun o o' => below_alloc (below_alloc (Below.refl w.heap.size w) o) o')
  by_cases h0 : k = k' ∧ n = n' ∧ nm = nm'
  · obtain ⟨h0, h1, h2⟩ := h0
    have h0' : (k != k') = false := bne_eq_false_iff_eq.2 h0
    have h1' : (n != n') = false := bne_eq_false_iff_eq.2 h1
    have h2' : (nm.toList == nm'.toList) = true := by rw [h2]; simp
    have H0 := Aside0.mk (And.intro h0 (And.intro h1 h2))
    clear h0 h1 h2
    have HXY := Aside0.mk (show ∀ b1 b2, eqB ls ls' = b1 → eqB ar ar' = b2 → eqB (⟨k, n, nm, ls, ar⟩ : S26) ⟨k', n', nm', ls', ar'⟩ = (b1 && b2) from by
      rintro b1 b2 rfl rfl
      rw [Bool.eq_iff_iff, Bool.and_eq_true, eqB_iff, eqB_iff, eqB_iff, HI.out]
      exact ⟨fun e => e.2.2.2, fun e => ⟨H0.out.1, H0.out.2.1, H0.out.2.2, e⟩⟩)
    obtain ⟨b1, hb1⟩ : ∃ b, eqB ls ls' = b := ⟨_, rfl⟩
    have HB1 := Aside0.mk hb1
    clear hb1
    cases b1 with
    | true =>
      by_cases hl : ar.length = ar'.length
      · have hl' : (((ar.length : Int)) != (ar'.length : Int)) = false := by rw [bne_eq_false_iff_eq]; omega
        have HL := Aside0.mk hl
        clear hl
        go_enter Try.func38, Try.ntmps38
        go_wp2_with (go_at_call 32; refine (HE.out _ (H2.out _ _)).mono ?_; rw [HB1.out]; rintro e w1 ⟨rfl, hbw⟩; obtain ⟨hcell, hfroz⟩ := bcell hbw; have HW1 := Aside0.mk hbw; have hz1 : w.heap.size + 1 < w1.heap.size := (by have h_ := hbw.size; simp only [World.size_alloc] at h_; omega); have hz0 : w.heap.size < w1.heap.size := Nat.lt_of_succ_lt hz1; clear hbw)
        go_loopg [5] ar.length (fun gk i wr => ∃ q : Nat, i = .int .i64 q ∧ Aside0 (gk + q = ar.length) ∧ Aside0 (ar.take q = ar'.take q) ∧ Aside0 (Below w1.heap.size w1 wr))
        case atStart => exact ⟨0, rfl, ⟨rfl⟩, ⟨rfl⟩, ⟨Below.refl _ _⟩⟩
        case round =>
          obtain ⟨q, rfl, HK, HQ, HB⟩ := hrel
          obtain ⟨hcellb, hfrozb⟩ := bcell HB.out
          have hz2 : w1.heap.size ≤ wr.heap.size := HB.out.size
          have hz3 : w.heap.size + 1 < wr.heap.size := Nat.lt_of_lt_of_le hz1 hz2
          have hz4 : w.heap.size < wr.heap.size := Nat.lt_of_succ_lt hz3
          have HBW := Aside0.mk (((H2.out _ _).trans (HW1.out.mono (by simp; omega))).trans (HB.out.mono (by omega)))
          by_cases hlt : q < ar.length
          · have hltZ : ((q : Int) < (ar.length : Int)) := by omega
            have hlt2 : q < ar'.length := by have := HL.out; omega
            have hltZ2 : ((q : Int) < (ar'.length : Int)) := by omega
            obtain ⟨ad, E3, e3, E4, e4, e, h0, h1, h2, h3, h4, l3, g3, l4, g4⟩ := el26 (Kd.C_below HX.out HBW.out) q hlt
            cases e
            obtain ⟨bd, F3, o3, F4, o4, e, q0, q1, q2, q3, q4, m3, f3, m4, f4⟩ := el26 (Kd.C_below HY.out HBW.out) q hlt2
            cases e
            have HIX := Aside0.mk (show ∀ b, eqB ar[q] ar'[q] = b → (b = true → ar.take (q + 1) = ar'.take (q + 1)) ∧ (b = false → eqB ar ar' = false) from by
              intro b hb
              refine ⟨fun e => ?_, fun e => eqB_false (fun e2 => ?_)⟩
              · subst e
                rw [List.take_succ_eq_append_getElem hlt, List.take_succ_eq_append_getElem hlt2, HQ.out, eqB_iff.1 hb]
              · subst e
                have : ar[q] = ar'[q] := by simp only [e2]
                rw [this, eqB_self] at hb
                cases hb)
            have HC := Aside0.mk (HIH.out ar[q] (List.getElem_mem hlt) ar'[q] wr.drew E3 e3 E4 e4 F3 o3 F4 o4 l3 (Kd.C_drew g3) l4 (Kd.C_drew g4) m3 (Kd.C_drew f3) m4 (Kd.C_drew f4))
            have HLT := Aside0.mk hlt
            generalize ar[q] = x at *
            generalize ar'[q] = y at *
            clear l3 g3 l4 g4 m3 f3 m4 f4 hlt hlt2
            obtain ⟨b, hb⟩ : ∃ b, eqB x y = b := ⟨_, rfl⟩
            have HBV := Aside0.mk hb
            clear hb
            cases b with
            | true =>
              go_wp2_with fail
              go_still_tail 10, (by kernel_rfl)
              change wpList _ _ _ _ _ wr.drew
              go_wp2_with (go_at_call 38; refine HC.out.mono ?_; rw [HBV.out]; rintro e w' ⟨rfl, hb'⟩)
              go_roundg (gk - 1)
              case measure => have := HK.out; have := HLT.out; omega
              case rel => exact ⟨q + 1, by go_num, ⟨by have := HK.out; have := HLT.out; omega⟩, ⟨(HIX.out _ HBV.out).1 rfl⟩, ⟨HB.out.trans (((below_drew (Below.refl wr.heap.size wr)).trans (show Below wr.heap.size wr.drew w' from hb')).mono (by omega))⟩⟩
            | false =>
              go_wp2_with fail
              go_still_tail 10, (by kernel_rfl)
              change wpList _ _ _ _ _ wr.drew
              go_wp2_with (go_at_call 38; refine HC.out.mono ?_; rw [HBV.out]; rintro e w' ⟨rfl, hb'⟩)
              go_ret
              exact ⟨ret_bool (by rw [HXY.out _ _ HB1.out ((HIX.out _ HBV.out).2 rfl)]; rfl), HBW.out.trans (((below_drew (Below.refl wr.heap.size wr)).trans (show Below wr.heap.size wr.drew w' from hb')).mono (by omega))⟩
          · have hltz : ¬ (q : Int) < (ar.length : Int) := by omega
            have HX2 := Aside0.mk (show eqB ar ar' = true from eqB_iff.2 (by
              have h1 : q = ar.length := by have := HK.out; omega
              have h2 := HQ.out
              rw [h1, List.take_length, HL.out, List.take_length] at h2
              exact h2))
            go_wp2
            go_ret
            exact ⟨ret_bool (by rw [HXY.out _ _ HB1.out HX2.out]; rfl), HBW.out⟩
      · have hl' : (((ar.length : Int)) != (ar'.length : Int)) = true := by rw [bne_iff_ne]; omega
        have HX2 := Aside0.mk (show eqB ar ar' = false from eqB_false (fun e => hl (by rw [e])))
        clear hl
        go_enter Try.func38, Try.ntmps38
        go_wp2_with (go_at_call 32; refine (HE.out _ (H2.out _ _)).mono ?_; rw [HB1.out]; rintro e w1 ⟨rfl, hbw⟩; obtain ⟨hcell, hfroz⟩ := bcell hbw; have HW1 := Aside0.mk hbw; have hz1 : w.heap.size + 1 < w1.heap.size := (by have h_ := hbw.size; simp only [World.size_alloc] at h_; omega); have hz0 : w.heap.size < w1.heap.size := Nat.lt_of_succ_lt hz1; clear hbw)
        go_ret
        exact ⟨ret_bool (by rw [HXY.out _ _ HB1.out HX2.out]; rfl), ((H2.out _ _).trans (HW1.out.mono (by simp; omega)))⟩
    | false =>
      have HX2 := Aside0.mk (HXY.out _ _ HB1.out rfl)
      go_enter Try.func38, Try.ntmps38
      go_wp2_with (go_at_call 32; refine (HE.out _ (H2.out _ _)).mono ?_; rw [HB1.out]; rintro e w1 ⟨rfl, hbw⟩; obtain ⟨hcell, hfroz⟩ := bcell hbw; have HW1 := Aside0.mk hbw; have hz1 : w.heap.size + 1 < w1.heap.size := (by have h_ := hbw.size; simp only [World.size_alloc] at h_; omega); have hz0 : w.heap.size < w1.heap.size := Nat.lt_of_succ_lt hz1; clear hbw)
      go_ret
      exact ⟨ret_bool (by rw [HX2.out]; rfl), ((H2.out _ _).trans (HW1.out.mono (by simp; omega)))⟩
  · have HX2 := Aside0.mk (show eqB (⟨k, n, nm, ls, ar⟩ : S26) ⟨k', n', nm', ls', ar'⟩ = false from eqB_false (fun e => h0 ⟨(HI.out.1 e).1, (HI.out.1 e).2.1, (HI.out.1 e).2.2.1⟩))
    by_cases h0a : k = k'
    · have h0' : (k != k') = false := bne_eq_false_iff_eq.2 h0a
      by_cases h1 : n = n'
      · have h1' : (n != n') = false := bne_eq_false_iff_eq.2 h1
        have h2' : (nm.toList == nm'.toList) = false := beq_eq_false_iff_ne.2 (fun e => h0 ⟨h0a, h1, bytes_ext e⟩)
        clear h0 h0a h1
        go_enter Try.func38, Try.ntmps38
        go_wp2
        go_ret
        exact ⟨ret_bool HX2.out.symm, H2.out _ _⟩
      · have h1' : (n != n') = true := bne_iff_ne.2 h1
        clear h0 h0a h1
        go_enter Try.func38, Try.ntmps38
        go_wp2
        go_ret
        exact ⟨ret_bool HX2.out.symm, H2.out _ _⟩
    · have h0' : (k != k') = true := bne_iff_ne.2 h0a
      clear h0 h0a
      go_enter Try.func38, Try.ntmps38
      go_wp2
      go_ret
      exact ⟨ret_bool HX2.out.symm, H2.out _ _⟩
end Go.Proofs.Ytkeeknlfommieaa.PF
namespace Go.Proofs.Ytkeeknlfommieaa.PF.R6
open Go.RowKit Go.Shelf Go.Proofs.Ytkeeknlfommieaa.PF Go.Proofs.YtkeeknlfommieaaW.PrintWords Go.Proofs.YtkeeknlfommieaaW.PrintLast Go.Proofs.YtkeeknlfommieaaW.PrintMore

theorem cells5 {W : World} {g : Nat} {a0 a1 a2 a3 a4 : Value} (h : W.heap[g]? = some (.cells #[a0, a1, a2, a3, a4] 26 (0, 0))) : W.cell? ⟨g, 0, none⟩ = some a0 ∧ W.cell? ⟨g, 1, none⟩ = some a1 ∧ W.cell? ⟨g, 2, none⟩ = some a2 ∧ W.cell? ⟨g, 3, none⟩ = some a3 ∧ W.cell? ⟨g, 4, none⟩ = some a4 :=
  ⟨blk_cell h 0, blk_cell h 1, blk_cell h 2, blk_cell h 3, blk_cell h 4⟩
/-- A type's box. -/
def BoxT (W : World) (g : Nat) (x : S26) (A3 : Option Addr) (c3 : Nat) (A4 : Option Addr) (c4 : Nat) : Prop := W.heap[g]? = some (.cells #[.int .i64 x.f0, .int .i64 x.f1, .string x.f2, .slice A3 x.f3.length c3, .slice A4 x.f4.length c4] 26 (0, 0))
theorem BoxT.below {W W1 : World} {g : Nat} {x : S26} {A3 : Option Addr} {c3 : Nat} {A4 : Option Addr} {c4 : Nat} (h : BoxT W g x A3 c3 A4 c4) (hb : Below W.heap.size W W1) : BoxT W1 g x A3 c3 A4 c4 := blk_below h hb
/-- What a type's cells read as: the four facts that the contracts ask. -/
structure Rd (W : World) (x : S26) (A3 : Option Addr) (c3 : Nat) (A4 : Option Addr) (c4 : Nat) : Prop where
  l3 : x.f3.length ≤ c3
  g3 : Kd.string.C W A3 x.f3.length x.f3
  l4 : x.f4.length ≤ c4
  g4 : k26.C W A4 x.f4.length x.f4
theorem Rd.below {W W1 : World} {x : S26} {A3 : Option Addr} {c3 : Nat} {A4 : Option Addr} {c4 : Nat} (h : Rd W x A3 c3 A4 c4) (hb : Below W.heap.size W W1) : Rd W1 x A3 c3 A4 c4 := ⟨h.l3, Kd.C_below h.g3 hb, h.l4, Kd.C_below h.g4 hb⟩

theorem vars_calls2 (t : S26) (w : World) (A3 : Option Addr) (c3 : Nat) (A4 : Option Addr) (c4 : Nat) (g4 : k26.C w A4 t.f4.length t.f4) (hbig : (preT t).length ≤ 4294967296) :
    Calls Try.prog 33 #[Value.agg #[.int .i64 t.f0, .int .i64 t.f1, .string t.f2, .slice A3 t.f3.length c3, .slice A4 t.f4.length c4]] w fun e w' => (∃ A c, e = .returned (.slice A (varsR t).length c) ∧ (varsR t).length ≤ c ∧ Aside0 (Kd.string.C w' A (varsR t).length (varsR t))) ∧ Below w.heap.size w w' := by
  have h := vars_calls t w A3 c3 A4 c4 g4 hbig
  rw [vars_eq, show (sortedVars t).length = (varsR t).length from by rw [← vars_same t, bl_length]] at h
  refine h.mono ?_
  rintro e w' ⟨⟨A, c, rfl, h1, h2⟩, hb⟩
  exact ⟨⟨A, c, rfl, h1, ⟨h2⟩⟩, hb⟩
theorem rvars_calls2 (t : S26) (hbig : (preT t).length ≤ 4294967296) (w : World) (A3 : Option Addr) (c3 : Nat) (A4 : Option Addr) (c4 : Nat) (l3 : t.f3.length ≤ c3) (g3 : Kd.string.C w A3 t.f3.length t.f3) (l4 : t.f4.length ≤ c4) (g4 : k26.C w A4 t.f4.length t.f4) :
    Calls Try.prog 34 #[Value.agg #[.int .i64 t.f0, .int .i64 t.f1, .string t.f2, .slice A3 t.f3.length c3, .slice A4 t.f4.length c4]] w fun e w' => (∃ A c, e = .returned (.slice A (varsR t).length c) ∧ (varsR t).length ≤ c ∧ Aside0 (Kd.string.C w' A (varsR t).length (varsR t))) ∧ Below w.heap.size w w' := by
  refine (rvars_calls t hbig w A3 c3 A4 c4 l3 g3 l4 g4).mono ?_
  rintro e w' ⟨⟨A, c, rfl, h1, h2⟩, hb⟩
  exact ⟨⟨A, c, rfl, h1, ⟨h2⟩⟩, hb⟩
theorem rsameS_self {W : World} {l : List ByteArray} {X : Option Addr} {x : Nat} {Y : Option Addr} {y : Nat} (h : Kd.string.C W X l.length l) (k : Kd.string.C W Y l.length l) (hx : l.length ≤ x) (hy : l.length ≤ y) :
    Calls Try.prog 32 #[.slice X l.length x, .slice Y l.length y] W fun e w' => e = .returned (.bool true) ∧ Below W.heap.size W w' := by
  have := rsameS_calls X x l Y y l W h hx k hy
  rw [eqB_self] at this
  exact this
set_option maxRecDepth 100000 in
set_option maxHeartbeats 4000000 in
theorem tyright_calls (t : S26) (kd : Int) (hbig : (preT t).length ≤ 4294967296) (w : World) (T3 : Option Addr) (c3 : Nat) (T4 : Option Addr) (c4 : Nat) (ht : Rd w t T3 c3 T4 c4) :
    Calls Try.prog 6 #[.agg #[.int .i64 t.f0, .int .i64 t.f1, .string t.f2, .slice T3 t.f3.length c3, .slice T4 t.f4.length c4], .int .i64 kd] w fun e w' => e = .returned (.bool true) ∧ Below w.heap.size w w' := by
  have HRT := Aside0.mk ht
  have HM := Aside0.mk (fun (W : World) (hb : Below w.heap.size w W) => much_calls t W T3 c3 T4 c4 HRT.out.l3 (Kd.C_below HRT.out.g3 hb) HRT.out.l4 (Kd.C_below HRT.out.g4 hb))
  have HBIG := Aside0.mk hbig
  have HB0 := Aside0.mk (below_alloc (Below.refl w.heap.size w) (.cells #[.int .i64 t.f0, .int .i64 t.f1, .string t.f2, .slice T3 t.f3.length c3, .slice T4 t.f4.length c4] 26))
  have HBT0 := Aside0.mk (show BoxT (w.alloc (.cells #[.int .i64 t.f0, .int .i64 t.f1, .string t.f2, .slice T3 t.f3.length c3, .slice T4 t.f4.length c4] 26)) w.heap.size t T3 c3 T4 c4 from blk_new _ _)
  clear ht hbig
  go_enter Try.func6, Try.ntmps6
  go_wp2_with (fail)
  refine (HM.out _ HB0.out).mono ?_
  rintro e w2 ⟨⟨q, rfl⟩, hb2⟩
  have HB2 := Aside0.mk (HB0.out.trans (hb2.mono (by simp)))
  have HBT2 := Aside0.mk (HBT0.out.below hb2)
  clear hb2
  rcases Int.lt_or_le 1500 q with hq | hq
  · have hq' : q > 1500 := hq
    go_wp2_with (go_at_call 25; refine (awake_calls _).mono ?_; rintro e w3 ⟨rfl, hb3⟩)
    go_ret
    exact ⟨rfl, HB2.out.trans (hb3.mono HB2.out.size)⟩
  · have hq' : ¬ q > 1500 := by omega
    go_wp2_with (fail)
    have HRT7 := Aside0.mk (HRT.out.below HB2.out)
    have hbig := HBIG.out
    generalize w2 = W7 at *
    have HC26 := Aside0.mk (fun (W : World) (hb : Below W7.heap.size W7 W) => have h := HRT7.out.below hb; right_calls t W T3 c3 T4 c4 h.l3 h.g3 h.l4 h.g4)
    have HC18 := Aside0.mk (fun (W : World) (hb : Below W7.heap.size W7 W) => have h := HRT7.out.below hb; rright_calls t W T3 c3 T4 c4 h.l3 h.g3 h.l4 h.g4)
    have HC27 := Aside0.mk (fun (W : World) (hb : Below W7.heap.size W7 W) => have h := HRT7.out.below hb; nodes_calls t W T3 c3 T4 c4 h.g4 (by omega))
    have HC28 := Aside0.mk (fun (W : World) (hb : Below W7.heap.size W7 W) => have h := HRT7.out.below hb; rnodes_calls t hbig W T3 c3 T4 c4 h.l3 h.g3 h.l4 h.g4)
    have HC29 := Aside0.mk (fun (W : World) (hb : Below W7.heap.size W7 W) => have h := HRT7.out.below hb; depth_calls t (Nat.le_trans (dep_le t) (by omega)) W T3 c3 T4 c4 h.l3 h.g3 h.l4 h.g4)
    have HC30 := Aside0.mk (fun (W : World) (hb : Below W7.heap.size W7 W) => have h := HRT7.out.below hb; rdepth_calls t hbig W T3 c3 T4 c4 h.l3 h.g3 h.l4 h.g4)
    have HC31 := Aside0.mk (fun (W : World) (hb : Below W7.heap.size W7 W) => have h := HRT7.out.below hb; has_calls t kd W T3 c3 T4 c4 h.g4)
    have HC19 := Aside0.mk (fun (W : World) (hb : Below W7.heap.size W7 W) => have h := HRT7.out.below hb; rhas_calls t kd hbig W T3 c3 T4 c4 h.l3 h.g3 h.l4 h.g4)
    have HC33 := Aside0.mk (fun (W : World) (hb : Below W7.heap.size W7 W) => have h := HRT7.out.below hb; vars_calls2 t W T3 c3 T4 c4 h.g4 hbig)
    have HC34 := Aside0.mk (fun (W : World) (hb : Below W7.heap.size W7 W) => have h := HRT7.out.below hb; rvars_calls2 t hbig W T3 c3 T4 c4 h.l3 h.g3 h.l4 h.g4)
    have HC35 := Aside0.mk (fun (W : World) (hb : Below W7.heap.size W7 W) => have h := HRT7.out.below hb; fits_calls t W T3 c3 T4 c4 h.g4)
    have HC36 := Aside0.mk (fun (W : World) (hb : Below W7.heap.size W7 W) => have h := HRT7.out.below hb; rfits_calls t hbig W T3 c3 T4 c4 h.l3 h.g3 h.l4 h.g4)
    clear hbig HM HB0 HBT0 hq hq' HRT
    generalize rightT t = b1 at *
    generalize ((preT t).length : Int) = b2 at *
    generalize (depT t : Int) = b3 at *
    generalize hasT t kd = b4 at *
    generalize decide ((preT t).length ≤ 300) = b5 at *
    have HSof := Aside0.mk (show ∀ W', Below W7.heap.size W7 W' → (W'.cell? ⟨w.heap.size, 0, none⟩ = some (.int .i64 t.f0) ∧ W'.cell? ⟨w.heap.size, 1, none⟩ = some (.int .i64 t.f1) ∧ W'.cell? ⟨w.heap.size, 2, none⟩ = some (.string t.f2) ∧ W'.cell? ⟨w.heap.size, 3, none⟩ = some (.slice T3 t.f3.length c3) ∧ W'.cell? ⟨w.heap.size, 4, none⟩ = some (.slice T4 t.f4.length c4) ∧ Below W7.heap.size W7 W') from fun W' hb => by
      obtain ⟨a0, a1, a2, a3, a4⟩ := cells5 (HBT2.out.below hb)
      exact ⟨a0, a1, a2, a3, a4, hb⟩)
    have HLOW := Aside0.mk (below_drew (Below.refl W7.heap.size W7))
    go_region_held3 (fun W' => W'.cell? ⟨w.heap.size, 0, none⟩ = some (.int .i64 t.f0) ∧ W'.cell? ⟨w.heap.size, 1, none⟩ = some (.int .i64 t.f1) ∧ W'.cell? ⟨w.heap.size, 2, none⟩ = some (.string t.f2) ∧ W'.cell? ⟨w.heap.size, 3, none⟩ = some (.slice T3 t.f3.length c3) ∧ W'.cell? ⟨w.heap.size, 4, none⟩ = some (.slice T4 t.f4.length c4) ∧ Below W7.heap.size W7 W') (first | (with_reducible exact HSof.out _ HLOW.out) | fail) (first | (go_at_call 26; with_reducible refine (HC26.out _ HLOW.out).mono ?_; rintro e wa ⟨rfl, hba⟩; have HLN := Aside0.mk (HLOW.out.trans (hba.mono HLOW.out.size)); clear HLOW; have HLOW := HLN; clear HLN; clear hba) | (go_at_call 18; with_reducible refine (HC18.out _ HLOW.out).mono ?_; rintro e wa ⟨rfl, hba⟩; have HLN := Aside0.mk (HLOW.out.trans (hba.mono HLOW.out.size)); clear HLOW; have HLOW := HLN; clear HLN; clear hba) | (go_at_call 27; with_reducible refine (HC27.out _ HLOW.out).mono ?_; rintro e wa ⟨rfl, hba⟩; have HLN := Aside0.mk (HLOW.out.trans (hba.mono HLOW.out.size)); clear HLOW; have HLOW := HLN; clear HLN; clear hba) | (go_at_call 28; with_reducible refine (HC28.out _ HLOW.out).mono ?_; rintro e wa ⟨rfl, hba⟩; have HLN := Aside0.mk (HLOW.out.trans (hba.mono HLOW.out.size)); clear HLOW; have HLOW := HLN; clear HLN; clear hba) | (go_at_call 29; with_reducible refine (HC29.out _ HLOW.out).mono ?_; rintro e wa ⟨rfl, hba⟩; have HLN := Aside0.mk (HLOW.out.trans (hba.mono HLOW.out.size)); clear HLOW; have HLOW := HLN; clear HLN; clear hba) | (go_at_call 30; with_reducible refine (HC30.out _ HLOW.out).mono ?_; rintro e wa ⟨rfl, hba⟩; have HLN := Aside0.mk (HLOW.out.trans (hba.mono HLOW.out.size)); clear HLOW; have HLOW := HLN; clear HLN; clear hba) | (go_at_call 31; with_reducible refine (HC31.out _ HLOW.out).mono ?_; rintro e wa ⟨rfl, hba⟩; have HLN := Aside0.mk (HLOW.out.trans (hba.mono HLOW.out.size)); clear HLOW; have HLOW := HLN; clear HLN; clear hba) | (go_at_call 19; with_reducible refine (HC19.out _ HLOW.out).mono ?_; rintro e wa ⟨rfl, hba⟩; have HLN := Aside0.mk (HLOW.out.trans (hba.mono HLOW.out.size)); clear HLOW; have HLOW := HLN; clear HLN; clear hba) | (go_at_call 35; with_reducible refine (HC35.out _ HLOW.out).mono ?_; rintro e wa ⟨rfl, hba⟩; have HLN := Aside0.mk (HLOW.out.trans (hba.mono HLOW.out.size)); clear HLOW; have HLOW := HLN; clear HLN; clear hba) | (go_at_call 36; with_reducible refine (HC36.out _ HLOW.out).mono ?_; rintro e wa ⟨rfl, hba⟩; have HLN := Aside0.mk (HLOW.out.trans (hba.mono HLOW.out.size)); clear HLOW; have HLOW := HLN; clear HLN; clear hba) | (go_at_call 33; with_reducible refine (HC33.out _ HLOW.out).mono ?_; rintro e wa ⟨⟨X3, x3, rfl, lx3, HRX⟩, hba⟩; have HLN := Aside0.mk (HLOW.out.trans (hba.mono HLOW.out.size)); clear HLOW; have HLOW := HLN; clear HLN; clear hba) | (go_at_call 34; with_reducible refine (HC34.out _ HLOW.out).mono ?_; rintro e wb ⟨⟨Y3, y3, rfl, ly3, HRY⟩, hba⟩; have HRX2 := Aside0.mk (Kd.C_below HRX.out hba); clear HRX; have HRX := HRX2; clear HRX2; have HLN := Aside0.mk (HLOW.out.trans (hba.mono HLOW.out.size)); clear HLOW; have HLOW := HLN; clear HLN; clear hba) | (go_at_call 32; with_reducible refine (rsameS_self HRX.out HRY.out lx3 ly3).mono ?_; rintro e wa ⟨rfl, hba⟩; have HLN := Aside0.mk (HLOW.out.trans (hba.mono HLOW.out.size)); clear HLOW; have HLOW := HLN; clear HLN; clear hba) | (go_at_call 25; with_reducible refine (awake_calls _).mono ?_; rintro e wa ⟨rfl, hba⟩; have HLN := Aside0.mk (HLOW.out.trans (hba.mono HLOW.out.size)); clear HLOW; have HLOW := HLN; clear HLN; clear hba) | fail)
    all_goals
      go_wp2
      go_ret
      exact ⟨rfl, HB2.out.trans (HLOW.out.mono HB2.out.size)⟩
end Go.Proofs.Ytkeeknlfommieaa.PF.R6
namespace Go.Proofs.Ytkeeknlfommieaa.PF
open Go.ChangeShapes Go.WideShapes Go.ChangeAt
open Go.RowKit Go.Proofs.YtkeeknlfommieaaW.PrintWords Go.Proofs.YtkeeknlfommieaaW.PrintLast Go.Proofs.YtkeeknlfommieaaW.PrintMore

theorem c_of {α : Type} (d : Kd α) {W : World} {ad : Addr} {n : Nat} (hn : n ≤ 9223372036854775807) (h : ∀ i, i < n → ∃ p cs, cs.length = d.sz ∧ d.K W p cs ∧ ∀ j u, cs[j]? = some u → W.cell? (ad.add (i * d.sz + j)) = some u) :
    ∃ xs : List α, xs.length = n ∧ d.C W (some ad) n xs := by
  have hf : ∀ i : Fin n, ∃ p cs, cs.length = d.sz ∧ d.K W p cs ∧ ∀ j u, cs[j]? = some u → W.cell? (ad.add (i.val * d.sz + j)) = some u := fun i => h i.val i.isLt
  have hf2 := fun i => Classical.choose_spec (hf i)
  obtain ⟨f, hff⟩ : ∃ f : Fin n → α, ∀ i, f i = Classical.choose (hf i) := ⟨_, fun _ => rfl⟩
  simp only [← hff] at hf2
  refine ⟨List.ofFn f, by simp, by simp, hn, fun _ => ⟨ad, rfl, fun j p hj => ?_⟩⟩
  obtain ⟨hjl, hp⟩ := List.getElem?_eq_some_iff.1 hj
  have hjl' : j < n := by simpa using hjl
  obtain ⟨cs, h1, h2, h3⟩ := hf2 ⟨j, hjl'⟩
  simp at hp
  subst hp
  exact ⟨cs, h1, h2, h3⟩

variable {H : Type} {enc : TypeId × Value → H}
theorem openS {W : World} : ∀ {fuel : Nat} {cs : List Value} {x : DataW H × List MemPlace}, DataW.trod enc Try.prog W 0 (fun _ => true) true fuel 23 cs = some x →
    ∃ A c ls, cs = [.slice A ls.length c] ∧ ls.length ≤ c ∧ Kd.string.C W A ls.length ls := by
  intro fuel cs x h
  rcases DataW.trod_slice Try.underlying23 h with ⟨rfl, _⟩ | ⟨a, len, cap, elems, rest, n, _, rfl, _, _, hlc, hcap, hel, hget, _⟩
  · exact ⟨none, 0, [], rfl, Nat.le_refl _, Kd.C_nil _ _⟩
  · obtain ⟨xs, hxl, hC⟩ := c_of Kd.string (W := W) (ad := a) (n := len) (by simp only [maxLen] at hcap; omega) (by
      intro i hi
      have hg := hget i hi
      rw [List.getElem?_eq_getElem (by omega)] at hg
      obtain ⟨cs, hcs, ht⟩ := Option.bind_eq_some_iff.1 hg
      have hsz : Try.prog.cellsOf 9 = 1 := by kernel_rfl
      rw [hsz] at hcs
      obtain ⟨_, hl, hc⟩ := World.cells?_some hcs
      obtain ⟨s, rfl, _, _⟩ := DataW.trod_string Try.underlying9 ht
      refine ⟨s, [.string s], rfl, rfl, fun j u hu => ?_⟩
      have hj : j < 1 := (List.getElem?_eq_some_iff.1 hu).1
      have h_ := hc j hj
      rw [Addr.add_add] at h_
      exact h_.trans hu)
    subst hxl
    exact ⟨some a, cap, xs, rfl, hlc, hC⟩
theorem list5 {α : Type} {l : List α} (h : l.length = 5) : ∃ a b c d e, l = [a, b, c, d, e] := by
  match l, h with
  | [a, b, c, d, e], _ => exact ⟨a, b, c, d, e, rfl⟩
theorem open26 {W : World} : ∀ (fuel : Nat) {cs : List Value} {x : DataW H × List MemPlace}, DataW.trod enc Try.prog W 0 (fun _ => true) true fuel 26 cs = some x → ∃ y, cs.length = 5 ∧ k26.K W y cs := by
  intro fuel
  induction fuel using Nat.strongRecOn with
  | ind fuel ih =>
  intro cs x h
  obtain ⟨xs, n, rfl, _, hlen, hxl0, hf⟩ := DataW.trod_struct Try.underlying26 h
  have h5 : Try.prog.cellsOf 26 = 5 := by kernel_rfl
  have h3 : Try.prog.cellsOf 3 = 1 := by kernel_rfl
  have h9 : Try.prog.cellsOf 9 = 1 := by kernel_rfl
  have h23 : Try.prog.cellsOf 23 = 1 := by kernel_rfl
  have h24 : Try.prog.cellsOf 24 = 1 := by kernel_rfl
  rw [h5] at hlen
  obtain ⟨v0, v1, v2, v3, v4, rfl⟩ := list5 hlen
  have hxl : xs.length = 5 := hxl0
  have get : ∀ i (hi : i < 5), ∃ y, xs[i]? = some y := fun i hi => ⟨_, List.getElem?_eq_getElem (by omega)⟩
  obtain ⟨y0, e0⟩ := get 0 (by omega)
  obtain ⟨y1, e1⟩ := get 1 (by omega)
  obtain ⟨y2, e2⟩ := get 2 (by omega)
  obtain ⟨y3, e3⟩ := get 3 (by omega)
  obtain ⟨y4, e4⟩ := get 4 (by omega)
  have f0 : DataW.trod enc Try.prog W 0 (fun _ => true) true n 3 (([v0, v1, v2, v3, v4].drop 0).take (Try.prog.cellsOf 3)) = some y0 := (hf 0 _ rfl).trans e0
  have f1 : DataW.trod enc Try.prog W 0 (fun _ => true) true n 3 (([v0, v1, v2, v3, v4].drop 1).take (Try.prog.cellsOf 3)) = some y1 := (hf 1 _ rfl).trans e1
  have f2 : DataW.trod enc Try.prog W 0 (fun _ => true) true n 9 (([v0, v1, v2, v3, v4].drop 2).take (Try.prog.cellsOf 9)) = some y2 := (hf 2 _ rfl).trans e2
  have f3 : DataW.trod enc Try.prog W 0 (fun _ => true) true n 23 (([v0, v1, v2, v3, v4].drop 3).take (Try.prog.cellsOf 23)) = some y3 := (hf 3 _ rfl).trans e3
  have f4 : DataW.trod enc Try.prog W 0 (fun _ => true) true n 24 (([v0, v1, v2, v3, v4].drop 4).take (Try.prog.cellsOf 24)) = some y4 := (hf 4 _ rfl).trans e4
  rw [h3] at f0 f1
  rw [h9] at f2
  rw [h23] at f3
  rw [h24] at f4
  simp only [List.drop_zero, List.drop_succ_cons, List.take_succ_cons, List.take_zero] at f0 f1 f2 f3 f4
  obtain ⟨k, ek, _, _⟩ := DataW.trod_int Try.underlying3 f0
  obtain ⟨m, em, _, _⟩ := DataW.trod_int Try.underlying3 f1
  obtain ⟨s, es, _, _⟩ := DataW.trod_string Try.underlying9 f2
  obtain ⟨A3, c3, ls, el, l3, g3⟩ := openS f3
  have hA : ∃ A c ar, [v4] = [.slice A ar.length c] ∧ ar.length ≤ c ∧ k26.C W A ar.length ar := by
    rcases DataW.trod_slice Try.underlying24 f4 with ⟨e, _⟩ | ⟨a, len, cap, elems, rest, n', rfl, e, _, _, hlc, hcap, hel, hget, _⟩
    · exact ⟨none, 0, [], e, Nat.le_refl _, Kd.C_nil _ _⟩
    · obtain ⟨xs', hxl', hC⟩ := c_of k26 (W := W) (ad := a) (n := len) (by simp only [maxLen] at hcap; omega) (by
        intro i hi
        have hg := hget i hi
        rw [List.getElem?_eq_getElem (by omega)] at hg
        obtain ⟨cs, hcs, ht⟩ := Option.bind_eq_some_iff.1 hg
        rw [h5] at hcs
        obtain ⟨_, hl, hc⟩ := World.cells?_some hcs
        obtain ⟨y, _, hK⟩ := ih n' (by omega) ht
        refine ⟨y, cs, hl, hK, fun j u hu => ?_⟩
        have hj : j < 5 := by have := (List.getElem?_eq_some_iff.1 hu).1; omega
        have h_ := hc j hj
        rw [Addr.add_add] at h_
        exact h_.trans hu)
      subst hxl'
      exact ⟨some a, cap, xs', e, hlc, hC⟩
  obtain ⟨A4, c4, ar, ea, l4, g4⟩ := hA
  cases ek
  cases em
  cases es
  cases el
  cases ea
  exact ⟨⟨k, m, s, ls, ar⟩, rfl, k26_mk W ⟨k, m, s, ls, ar⟩ l3 g3 l4 g4⟩
theorem openL {W : World} {fuel : Nat} {cs : List Value} {x : DataW H × List MemPlace} (h : DataW.trod enc Try.prog W 0 (fun _ => true) true fuel 24 cs = some x) : ∃ A c ar, cs = [.slice A ar.length c] ∧ ar.length ≤ c ∧ k26.C W A ar.length ar := by
  have h5 : Try.prog.cellsOf 26 = 5 := by kernel_rfl
  rcases DataW.trod_slice Try.underlying24 h with ⟨e, _⟩ | ⟨a, len, cap, elems, rest, n', rfl, e, _, _, hlc, hcap, hel, hget, _⟩
  · exact ⟨none, 0, [], e, Nat.le_refl _, Kd.C_nil _ _⟩
  · obtain ⟨xs', hxl', hC⟩ := c_of k26 (W := W) (ad := a) (n := len) (by simp only [maxLen] at hcap; omega) (by
      intro i hi
      have hg := hget i hi
      rw [List.getElem?_eq_getElem (by omega)] at hg
      obtain ⟨cs, hcs, ht⟩ := Option.bind_eq_some_iff.1 hg
      rw [h5] at hcs
      obtain ⟨_, hl, hc⟩ := World.cells?_some hcs
      obtain ⟨y, _, hK⟩ := open26 n' ht
      refine ⟨y, cs, hl, hK, fun j u hu => ?_⟩
      have hj : j < 5 := by have := (List.getElem?_eq_some_iff.1 hu).1; omega
      have h_ := hc j hj
      rw [Addr.add_add] at h_
      exact h_.trans hu)
    subst hxl'
    exact ⟨some a, cap, xs', e, hlc, hC⟩
set_option maxRecDepth 1000000 in
/-- A type that a row hands over. -/
theorem arg26 {W : World} {r : Reach} {b0 : Nat} {v : Value} {d : DataW H} {p : List MemPlace} (hv : Value.okWide Try.prog W r b0 26 v) (h : DataW.Trod enc Try.prog W 0 (fun _ => true) true 26 v d p) : ∃ y, RT W v y := by
  obtain ⟨cs, rfl, _⟩ := okWide_struct Try.underlying26 hv
  obtain ⟨fuel, h⟩ := h
  obtain ⟨y, _, hK⟩ := open26 fuel h
  obtain ⟨A3, c3, A4, c4, e, l3, g3, l4, g4⟩ := k26_open hK
  refine ⟨y, A3, c3, A4, c4, ?_, l3, g3, l4, g4⟩
  have : cs = #[.int .i64 y.f0, .int .i64 y.f1, .string y.f2, .slice A3 y.f3.length c3, .slice A4 y.f4.length c4] := by
    rw [← Array.toList_inj]; exact e
  rw [this]
end Go.Proofs.Ytkeeknlfommieaa.PF
namespace Go.Proofs.Ytkeeknlfommieaa.PF
open Go.ChangeShapes Go.WideShapes Go.ChangeAt
open Go.RowKit Go.Proofs.YtkeeknlfommieaaW.PrintWords Go.Proofs.YtkeeknlfommieaaW.PrintLast Go.Proofs.YtkeeknlfommieaaW.PrintMore

theorem c_ofQ {α : Type} (d : Kd α) {W : World} {ad : Addr} {n : Nat} {Q : Nat → α → Prop} (hn : n ≤ 9223372036854775807) (h : ∀ i, i < n → ∃ p cs, cs.length = d.sz ∧ d.K W p cs ∧ Q i p ∧ ∀ j u, cs[j]? = some u → W.cell? (ad.add (i * d.sz + j)) = some u) :
    ∃ xs : List α, xs.length = n ∧ d.C W (some ad) n xs ∧ ∀ i p, xs[i]? = some p → Q i p := by
  have hf : ∀ i : Fin n, ∃ p cs, cs.length = d.sz ∧ d.K W p cs ∧ Q i.val p ∧ ∀ j u, cs[j]? = some u → W.cell? (ad.add (i.val * d.sz + j)) = some u := fun i => h i.val i.isLt
  have hf2 := fun i => Classical.choose_spec (hf i)
  obtain ⟨f, hff⟩ : ∃ f : Fin n → α, ∀ i, f i = Classical.choose (hf i) := ⟨_, fun _ => rfl⟩
  simp only [← hff] at hf2
  refine ⟨List.ofFn f, by simp, ⟨by simp, hn, fun _ => ⟨ad, rfl, fun j p hj => ?_⟩⟩, fun j p hj => ?_⟩
  · obtain ⟨hjl, hp⟩ := List.getElem?_eq_some_iff.1 hj
    have hjl' : j < n := by simpa using hjl
    obtain ⟨cs, h1, h2, _, h3⟩ := hf2 ⟨j, hjl'⟩
    simp at hp
    subst hp
    exact ⟨cs, h1, h2, h3⟩
  · obtain ⟨hjl, hp⟩ := List.getElem?_eq_some_iff.1 hj
    have hjl' : j < n := by simpa using hjl
    obtain ⟨cs, _, _, h3, _⟩ := hf2 ⟨j, hjl'⟩
    simp at hp
    subst hp
    exact h3

variable {H : Type} {enc : TypeId × Value → H}
theorem bulk_part {d : DataW H} {l : List (DataW H)} (h : d ∈ l) : Rows.uptoBulk d ≤ Rows.uptoBulkAll l := by
  induction l with
  | nil => cases h
  | cons x r ih =>
    simp only [Rows.uptoBulkAll]
    cases List.mem_cons.1 h with
    | inl e => subst e; omega
    | inr e => have := ih e; omega
theorem pre_bulk (ar : List S26) : ∀ (es : List (DataW H)), (∀ (i : Nat) (p : S26), ar[i]? = some p → ∃ q, es[i]? = some q ∧ (preT p).length ≤ Rows.uptoBulk q) → (preL ar).length ≤ Rows.uptoBulkAll es := by
  induction ar with
  | nil => intro es _; rw [preL]; exact Nat.zero_le _
  | cons x ar ih =>
    intro es h
    obtain ⟨q, hq, hb⟩ := h 0 x rfl
    cases es with
    | nil => cases hq
    | cons e es =>
      cases hq
      have := ih es (fun i p hp => h (i + 1) p hp)
      rw [preL, List.length_append, Rows.uptoBulkAll]
      omega
theorem open26b {W : World} : ∀ (fuel : Nat) {cs : List Value} {x : DataW H × List MemPlace}, DataW.trod enc Try.prog W 0 (fun _ => true) true fuel 26 cs = some x → ∃ y, cs.length = 5 ∧ k26.K W y cs ∧ (preT y).length ≤ Rows.uptoBulk x.1 := by
  intro fuel
  induction fuel using Nat.strongRecOn with
  | ind fuel ih =>
  intro cs x h
  obtain ⟨xs, n, rfl, hx, hlen, hxl0, hf⟩ := DataW.trod_struct Try.underlying26 h
  have h5 : Try.prog.cellsOf 26 = 5 := by kernel_rfl
  have h3 : Try.prog.cellsOf 3 = 1 := by kernel_rfl
  have h9 : Try.prog.cellsOf 9 = 1 := by kernel_rfl
  have h23 : Try.prog.cellsOf 23 = 1 := by kernel_rfl
  have h24 : Try.prog.cellsOf 24 = 1 := by kernel_rfl
  rw [h5] at hlen
  obtain ⟨v0, v1, v2, v3, v4, rfl⟩ := list5 hlen
  have hxl : xs.length = 5 := hxl0
  have get : ∀ i (hi : i < 5), ∃ y, xs[i]? = some y := fun i hi => ⟨_, List.getElem?_eq_getElem (by omega)⟩
  obtain ⟨y0, e0⟩ := get 0 (by omega)
  obtain ⟨y1, e1⟩ := get 1 (by omega)
  obtain ⟨y2, e2⟩ := get 2 (by omega)
  obtain ⟨y3, e3⟩ := get 3 (by omega)
  obtain ⟨y4, e4⟩ := get 4 (by omega)
  have f0 : DataW.trod enc Try.prog W 0 (fun _ => true) true n 3 (([v0, v1, v2, v3, v4].drop 0).take (Try.prog.cellsOf 3)) = some y0 := (hf 0 _ rfl).trans e0
  have f1 : DataW.trod enc Try.prog W 0 (fun _ => true) true n 3 (([v0, v1, v2, v3, v4].drop 1).take (Try.prog.cellsOf 3)) = some y1 := (hf 1 _ rfl).trans e1
  have f2 : DataW.trod enc Try.prog W 0 (fun _ => true) true n 9 (([v0, v1, v2, v3, v4].drop 2).take (Try.prog.cellsOf 9)) = some y2 := (hf 2 _ rfl).trans e2
  have f3 : DataW.trod enc Try.prog W 0 (fun _ => true) true n 23 (([v0, v1, v2, v3, v4].drop 3).take (Try.prog.cellsOf 23)) = some y3 := (hf 3 _ rfl).trans e3
  have f4 : DataW.trod enc Try.prog W 0 (fun _ => true) true n 24 (([v0, v1, v2, v3, v4].drop 4).take (Try.prog.cellsOf 24)) = some y4 := (hf 4 _ rfl).trans e4
  rw [h3] at f0 f1
  rw [h9] at f2
  rw [h23] at f3
  rw [h24] at f4
  simp only [List.drop_zero, List.drop_succ_cons, List.take_succ_cons, List.take_zero] at f0 f1 f2 f3 f4
  obtain ⟨k, ek, _, _⟩ := DataW.trod_int Try.underlying3 f0
  obtain ⟨m, em, _, _⟩ := DataW.trod_int Try.underlying3 f1
  obtain ⟨s, es, _, _⟩ := DataW.trod_string Try.underlying9 f2
  obtain ⟨A3, c3, ls, el, l3, g3⟩ := openS f3
  have hA : ∃ A c ar, [v4] = [.slice A ar.length c] ∧ ar.length ≤ c ∧ k26.C W A ar.length ar ∧ (preL ar).length + 1 ≤ Rows.uptoBulk y4.1 := by
    rcases DataW.trod_slice Try.underlying24 f4 with ⟨e, hy⟩ | ⟨a, len, cap, elems, rest, n', rfl, e, hy, _, hlc, hcap, hel, hget, _⟩
    · exact ⟨none, 0, [], e, Nat.le_refl _, Kd.C_nil _ _, by rw [hy]; simp [preL, Rows.uptoBulk]⟩
    · obtain ⟨xs', hxl', hC, hQ⟩ := c_ofQ k26 (W := W) (ad := a) (n := len) (Q := fun i p => ∃ q, elems[i]? = some q ∧ (preT p).length ≤ Rows.uptoBulk q.1) (by simp only [maxLen] at hcap; omega) (by
        intro i hi
        have hg := hget i hi
        have hgg := List.getElem?_eq_getElem (l := elems) (i := i) (by omega)
        rw [hgg] at hg
        obtain ⟨cs, hcs, ht⟩ := Option.bind_eq_some_iff.1 hg
        rw [h5] at hcs
        obtain ⟨_, hl, hc⟩ := World.cells?_some hcs
        obtain ⟨y, _, hK, hbk⟩ := ih n' (by omega) ht
        refine ⟨y, cs, hl, hK, ⟨_, hgg, hbk⟩, fun j u hu => ?_⟩
        have hj : j < 5 := by have := (List.getElem?_eq_some_iff.1 hu).1; omega
        have h_ := hc j hj
        rw [Addr.add_add] at h_
        exact h_.trans hu)
      subst hxl'
      refine ⟨some a, cap, xs', e, hlc, hC, ?_⟩
      rw [hy]
      simp only [Rows.uptoBulk]
      have := pre_bulk xs' (elems.map (·.1)) (fun i p hp => by obtain ⟨q, hq, hb⟩ := hQ i p hp; exact ⟨q.1, by rw [List.getElem?_map, hq]; rfl, hb⟩)
      omega
  obtain ⟨A4, c4, ar, ea, l4, g4, hbar⟩ := hA
  cases ek
  cases em
  cases es
  cases el
  cases ea
  refine ⟨⟨k, m, s, ls, ar⟩, rfl, k26_mk W ⟨k, m, s, ls, ar⟩ l3 g3 l4 g4, ?_⟩
  rw [preT_len, hx]
  simp only [Rows.uptoBulk]
  have := bulk_part (show y4.1 ∈ xs.map (·.1) from List.mem_map_of_mem (List.mem_of_getElem? e4))
  omega
set_option maxRecDepth 1000000 in
/-- A type that a row hands over. -/
theorem arg26b {W : World} {r : Reach} {b0 : Nat} {v : Value} {d : DataW H} {p : List MemPlace} (hv : Value.okWide Try.prog W r b0 26 v) (h : DataW.Trod enc Try.prog W 0 (fun _ => true) true 26 v d p) : ∃ y, RT W v y ∧ (preT y).length ≤ Rows.uptoBulk d := by
  obtain ⟨cs, rfl, _⟩ := okWide_struct Try.underlying26 hv
  obtain ⟨fuel, h⟩ := h
  obtain ⟨y, _, hK, hbk⟩ := open26b fuel h
  obtain ⟨A3, c3, A4, c4, e, l3, g3, l4, g4⟩ := k26_open hK
  refine ⟨y, ⟨A3, c3, A4, c4, ?_, l3, g3, l4, g4⟩, hbk⟩
  have : cs = #[.int .i64 y.f0, .int .i64 y.f1, .string y.f2, .slice A3 y.f3.length c3, .slice A4 y.f4.length c4] := by
    rw [← Array.toList_inj]; exact e
  rw [this]
end Go.Proofs.Ytkeeknlfommieaa.PF
namespace Go.Proofs.Ytkeeknlfommieaa.tyRight
open Go.ChangeShapes Go.WideShapes Go.ChangeAt Go.RowKit
set_option linter.unusedVariables false
theorem own : ownKnob Try.prog.godebug = none := by kernel_rfl
theorem laidOut : laidOutB Try.prog = true := by kernel_rfl
set_option maxRecDepth 1000000 in
theorem contract (H : Type) (enc : TypeId × Value → H) (W : World) (base : Nat) (args : Array Value) (ds gs : List (DataW H)) (before : List MemPlace)
    (hval0 : ∀ (j : Nat) t v, Try.f6.params[j]? = some t → args[j]? = some v → Value.okWide Try.prog W .any base t v)
    (hW : DataW.Whole enc Try.prog Try.f6.params.toList Rows.tyRightSpec.vars false W args.toList ds gs before) (hk : Rows.uptoSmall H (ds ++ gs) = true) :
    Calls Try.prog 6 args W fun e W' => ∃ v, e = .returned v ∧ Rows.tyRightSpec.post enc Try.prog Try.f6 false true false false W args v W' := by
  have hval : ∀ (j : Nat) t v, Try.f6.params[j]? = some t → args[j]? = some v → Value.okWide Try.prog W .any base t v := hval0
  have hW' := hW
  obtain ⟨p, q, hA0, hV, rfl, hfz, hnd⟩ := hW
  have hA : DataW.TrodAll enc Try.prog W 0 (fun _ => true) true Try.f6.params.toList args.toList ds p := hA0
  rw [Try.params6] at hA hval
  obtain ⟨v0, vs0, d0, ds0, p0, q0, hargs, rfl, rfl, h0, r0⟩ := trodAll_cons hA
  obtain ⟨v1, vs1, d1, ds1, p1, q1, rfl, rfl, rfl, h1, r1⟩ := trodAll_cons r0
  obtain ⟨rfl, rfl, rfl⟩ := trodAll_nil r1
  obtain rfl : args = #[v0, v1] := by cases args; simp_all
  obtain ⟨rfl, rfl⟩ := trodVars_none hV
  have lt0 : ∀ x ∈ p0, x.block < W.heap.size := by obtain ⟨m, hm⟩ := h0; exact DataW.trod_lt m _ _ _ hm
  have lt1 : ∀ x ∈ p1, x.block < W.heap.size := by obtain ⟨m, hm⟩ := h1; exact DataW.trod_lt m _ _ _ hm
  obtain ⟨t, ⟨T3, c3, T4, c4, rfl, k3, k4, k5, k6⟩, hbk⟩ := PF.arg26b (hval 0 26 v0 rfl rfl) h0
  obtain ⟨kd, rfl, _⟩ := okWide_int Try.underlying3 (hval 1 3 v1 rfl rfl)
  have hb : Rows.uptoBulkAll ([d0, d1] ++ []) ≤ 1048576 := of_decide_eq_true hk
  have hpart := PF.bulk_part (show d0 ∈ [d0, d1] ++ [] from List.mem_cons_self)
  clear hA0 hval0
  refine (PF.R6.tyright_calls t kd (by omega) W T3 c3 T4 c4 ⟨k3, k4, k5, k6⟩).mono fun e W' ⟨he, bel⟩ => ?_
  subst he
  exact ⟨_, rfl, _, _, _, [], _, [], hW', trodAll_mk1 (shut_bool Try.underlying4 _), (trodAll_cons_mk (Below.trod laidOut (by kernel_rfl) (of_decide_eq_true (by kernel_rfl)) h0 bel lt0) (trodAll_cons_mk (Below.trod laidOut (by kernel_rfl) (of_decide_eq_true (by kernel_rfl)) h1 bel lt1) trodAll_mk0)), rfl, bel.frame _, fun h => by cases h⟩
set_option maxRecDepth 1000000 in
theorem lifted (os : Os) (started : os.Started) (H : Type) (enc : TypeId × Value → H) (F : Stop.Interp) :
    ReturnsInHanded {} Try.checked os 6 .any ((Rows.OpenSpec.upto Rows.tyRightSpec).pre6 enc Try.prog Try.f6 Rows.tyRightUptoRow.domain false) (((Rows.OpenSpec.upto Rows.tyRightSpec).at F).post enc Try.prog Try.f6 false true false false) := by
  refine returnsInHanded_of_cond (C := Try.checked) (s := Rows.OpenSpec.upto Rows.tyRightSpec) (k := Rows.uptoSmall) rfl own started (by kernel_rfl) Try.func6
    (OpenSpec.witness (enc := enc) (C := Try.checked) (s := Rows.OpenSpec.upto Rows.tyRightSpec) (k := Rows.uptoSmall) rfl false ⟨#[], #[.agg #[.int .i64 0, .int .i64 0, .string ByteArray.empty, .slice none 0 0, .slice none 0 0], .int .i64 0], []⟩ 8 (by kernel_rfl) (by kernel_rfl) (by kernel_rfl)
      (x := ([.agg [.lit (.int .i64 0), .lit (.int .i64 0), .lit (.string []), .nil, .nil], .lit (.int .i64 0)], [], [])) (by kernel_rfl) rfl (by kernel_rfl)) ?_
  intro W base args ds gs before hval hW _ hk _
  exact contract H enc W base args ds gs before hval hW hk
theorem over : Rows.tyRightUptoRow.holds Try.pinned (Rows.OpenSpec.upto Rows.tyRightSpec) :=
  OpenClaim.holds_of_cond 6 Try.f6 rfl rfl rfl rfl rfl rfl rfl ⟨rfl, rfl, rfl, rfl, rfl⟩ rfl rfl rfl rfl rfl (by kernel_rfl) Try.func6 (by kernel_rfl)
    (of_decide_eq_true (by kernel_rfl)) (by unfold Func.isWrapper; first | (rw [if_pos (by decide +kernel)]; kernel_rfl) | (rw [if_neg (by decide +kernel)]; exact ⟨rfl, rfl⟩))
    (fun os started H enc _ F => lifted os started H enc F)
theorem proved : Rows.TyRightUptoSaid := over
end Go.Proofs.Ytkeeknlfommieaa.tyRight
namespace Go.Proofs.Ytkeeknlfommieaa
theorem tyRightUpto_holds : Rows.TyRightUptoSaid := tyRight.proved
end Go.Proofs.Ytkeeknlfommieaa
