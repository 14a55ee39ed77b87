/- The laws' own awake: it returns true. -/
import Derived.Test.YtkeeknlfommieaaD4
import Derived.Test.YtkeeknlfommieaaB6
import Derived.Test.YtkeeknlfommieaaB7
import Derived.Test.YtkeeknlfommieaaC2
import Derived.Test.YtkeeknlfommieaaE1
import Derived.Test.YtkeeknlfommieaaR0
import Derived.Test.YtkeeknlfommieaaWLast
namespace Go.Proofs.Ytkeeknlfommieaa.PF
open Go.RowKit Go.Shelf Go.Sort Go.Proofs.YtkeeknlfommieaaW.PrintWords Go.Proofs.YtkeeknlfommieaaW.PrintLast Go.Proofs.YtkeeknlfommieaaW.PrintMore

def tI : S26 := ⟨1, 0, ⟨#[]⟩, [], []⟩
def tX : S26 := ⟨6, 0, ⟨#[88]⟩, [], []⟩
def tA : S26 := ⟨8, 0, ⟨#[]⟩, [⟨#[97]⟩, ⟨#[98]⟩], [funT tX tI, tI]⟩
theorem full_awake : FullT tA := by
  have hX : FullT tX := .mk _ _ _ _ _ (by decide) (by intro s h; cases h) (by intro s h; cases h)
  have hI : FullT tI := .mk _ _ _ _ _ (by decide) (by intro s h; cases h) (by intro s h; cases h)
  refine .mk _ _ _ _ _ (by decide) (by intro s hs; simp only [List.mem_cons, List.not_mem_nil, or_false] at hs; rcases hs with rfl | rfl <;> (intro h; cases h)) ?_
  intro x hx
  simp only [List.mem_cons, List.not_mem_nil, or_false] at hx
  rcases hx with rfl | rfl
  · refine .mk _ _ _ _ _ (by decide) (by intro s h; cases h) ?_
    intro y hy
    simp only [List.mem_cons, List.not_mem_nil, or_false] at hy
    rcases hy with rfl | rfl
    · exact hX
    · exact hI
  · exact hI
theorem rec_awake : recT [⟨#[98]⟩, ⟨#[97]⟩] [tI, funT tX tI] = (tA, true) := by
  rw [recT_eq rfl [(⟨#[97]⟩, funT tX tI), (⟨#[98]⟩, tI)] (List.Perm.swap _ _ _) (by simp [key]; decide)]
  rfl
theorem field_awake : fieldT tA ⟨#[98]⟩ = (tI, true) := by
  have e : placeS ⟨#[98]⟩ tA.f3 0 = 1 := by
    simp [tA, placeS, eqB_iff]
  unfold fieldT
  rw [e]
  rfl
theorem right_awake : rightT tA = true := by rfl
theorem nodes_awake : (preT tA).length = 5 := by rfl
theorem depth_awake : depT tA = 3 := by rfl
theorem vars_awake : (sortedVars tA).length = 1 := by
  unfold sortedVars
  rw [show bl (namesL (preT tA)) = [[88]] from rfl, List.mergeSort_singleton]
  rfl
theorem has_awake : hasT tA 7 = true := by rfl
theorem cS_two {W : World} {g : Nat} {a b : ByteArray} (h0 : W.cell? ⟨g, 0, none⟩ = some (.string a)) (h1 : W.cell? ⟨g, 1, none⟩ = some (.string b)) : Kd.string.C W (some ⟨g, 0, none⟩) 2 [a, b] := by
  refine ⟨rfl, by simp, fun _ => ⟨_, rfl, fun j p hj => ?_⟩⟩
  match j, hj with
  | 0, hj => cases hj; exact ⟨_, rfl, rfl, fun i u hu => by match i, hu with | 0, hu => cases hu; rw [show (⟨g, 0, none⟩ : Addr).add (0 * Kd.string.sz + 0) = ⟨g, 0, none⟩ from add_plain g _]; exact h0⟩
  | 1, hj => cases hj; exact ⟨_, rfl, rfl, fun i u hu => by match i, hu with | 0, hu => cases hu; rw [show (⟨g, 0, none⟩ : Addr).add (1 * Kd.string.sz + 0) = ⟨g, 1, none⟩ from add_plain g _]; exact h1⟩
theorem c26_two' {W : World} {g : Nat} {a b : S26} {A3 : Option Addr} {c3 : Nat} {A4 : Option Addr} {c4 : Nat} {B3 : Option Addr} {d3 : Nat} {B4 : Option Addr} {d4 : Nat}
    (h0 : W.cell? ⟨g, 0, none⟩ = some (.int .i64 a.f0)) (h1 : W.cell? ⟨g, 1, none⟩ = some (.int .i64 a.f1)) (h2 : W.cell? ⟨g, 2, none⟩ = some (.string a.f2)) (h3 : W.cell? ⟨g, 3, none⟩ = some (.slice A3 a.f3.length c3)) (h4 : W.cell? ⟨g, 4, none⟩ = some (.slice A4 a.f4.length c4))
    (h5 : W.cell? ⟨g, 5, none⟩ = some (.int .i64 b.f0)) (h6 : W.cell? ⟨g, 6, none⟩ = some (.int .i64 b.f1)) (h7 : W.cell? ⟨g, 7, none⟩ = some (.string b.f2)) (h8 : W.cell? ⟨g, 8, none⟩ = some (.slice B3 b.f3.length d3)) (h9 : W.cell? ⟨g, 9, none⟩ = some (.slice B4 b.f4.length d4))
    (l3 : a.f3.length ≤ c3) (g3 : Kd.string.C W A3 a.f3.length a.f3) (l4 : a.f4.length ≤ c4) (g4 : k26.C W A4 a.f4.length a.f4) (m3 : b.f3.length ≤ d3) (f3 : Kd.string.C W B3 b.f3.length b.f3) (m4 : b.f4.length ≤ d4) (f4 : k26.C W B4 b.f4.length b.f4) :
    k26.C W (some ⟨g, 0, none⟩) 2 [a, b] := by
  refine ⟨rfl, by simp, fun _ => ⟨_, rfl, fun j p hj => ?_⟩⟩
  have hadd : ∀ m, (⟨g, 0, none⟩ : Addr).add m = ⟨g, m, none⟩ := fun m => add_plain g m
  match j, hj with
  | 0, hj =>
    cases hj
    refine ⟨_, rfl, k26_mk W a l3 g3 l4 g4, fun i u hu => ?_⟩
    rw [hadd]
    match i, hu with
    | 0, hu => cases hu; exact h0
    | 1, hu => cases hu; exact h1
    | 2, hu => cases hu; exact h2
    | 3, hu => cases hu; exact h3
    | 4, hu => cases hu; exact h4
  | 1, hj =>
    cases hj
    refine ⟨_, rfl, k26_mk W b m3 f3 m4 f4, fun i u hu => ?_⟩
    rw [hadd]
    match i, hu with
    | 0, hu => cases hu; exact h5
    | 1, hu => cases hu; exact h6
    | 2, hu => cases hu; exact h7
    | 3, hu => cases hu; exact h8
    | 4, hu => cases hu; exact h9

abbrev S0 (w W : World) : Prop := W.cell? ⟨w.heap.size, 0, none⟩ = some (.int .i64 1) ∧ W.cell? ⟨w.heap.size, 1, none⟩ = some (.int .i64 0) ∧ W.cell? ⟨w.heap.size, 2, none⟩ = some (.string ⟨#[]⟩) ∧ W.cell? ⟨w.heap.size, 3, none⟩ = some (.slice none 0 0) ∧ W.cell? ⟨w.heap.size, 4, none⟩ = some (.slice none 0 0) ∧ W.cell? ⟨w.heap.size + 1, 0, none⟩ = some (.int .i64 6) ∧ W.cell? ⟨w.heap.size + 1, 1, none⟩ = some (.int .i64 0) ∧ W.cell? ⟨w.heap.size + 1, 2, none⟩ = some (.string ⟨#[88]⟩) ∧ W.cell? ⟨w.heap.size + 1, 3, none⟩ = some (.slice none 0 0) ∧ W.cell? ⟨w.heap.size + 1, 4, none⟩ = some (.slice none 0 0) ∧ Below w.heap.size w W ∧ w.heap.size + 1 < W.heap.size
theorem S0.low {w W : World} (h : S0 w W) : Below w.heap.size w W := h.2.2.2.2.2.2.2.2.2.2.1
theorem S0.drew {w W : World} (h : S0 w W) : S0 w W.drew := by
  obtain ⟨a0, a1, a2, a3, a4, b0, b1, b2, b3, b4, hb, hz⟩ := h
  exact ⟨a0, a1, a2, a3, a4, b0, b1, b2, b3, b4, below_drew hb, hz⟩
theorem S0.call {w W W' : World} (h : S0 w W) (hw : Below W.heap.size W W') : S0 w W' := by
  obtain ⟨a0, a1, a2, a3, a4, b0, b1, b2, b3, b4, hb, hz⟩ := h
  have hc : ∀ b i, b ≤ w.heap.size + 1 → W'.cell? ⟨b, i, none⟩ = W.cell? ⟨b, i, none⟩ := fun b i hi => hw.cell (p := ⟨b, i, none⟩) (show b < W.heap.size by omega)
  refine ⟨?_, ?_, ?_, ?_, ?_, ?_, ?_, ?_, ?_, ?_, hb.trans (hw.mono (by omega)), Nat.lt_of_lt_of_le hz hw.size⟩ <;> (rw [hc _ _ (by omega)]; assumption)
theorem S0.alloc {w W : World} (h : S0 w W) (o : Obj) : S0 w (W.alloc o) := h.call (below_alloc (Below.refl _ _) o)
theorem S0.set {w W : World} (h : S0 w W) {g i : Nat} {u : Value} (hg : w.heap.size + 1 < g) : S0 w (W.setCell ⟨g, i, none⟩ u) := by
  obtain ⟨a0, a1, a2, a3, a4, b0, b1, b2, b3, b4, hb, hz⟩ := h
  have hc : ∀ b i', b ≤ w.heap.size + 1 → (W.setCell ⟨g, i, none⟩ u).cell? ⟨b, i', none⟩ = W.cell? ⟨b, i', none⟩ := fun b i' hi => World.cell?_of_block (Below.heap_setCell W ⟨g, i, none⟩ u b (fun e => by have e' : b = g := e; omega))
  refine ⟨?_, ?_, ?_, ?_, ?_, ?_, ?_, ?_, ?_, ?_, hb.setCell (p := ⟨g, i, none⟩) (show w.heap.size ≤ g by omega) _, by rw [World.size_setCell]; exact hz⟩ <;> (rw [hc _ _ (by omega)]; assumption)
theorem size_drew' (w : World) : w.drew.heap.size = w.heap.size := rfl
theorem blk_new' (w : World) (o : Obj) {g : Nat} (h : g = w.heap.size) : (w.alloc o).heap[g]? = some o := by rw [h]; exact blk_new w o
theorem fun_awake0 (W : World) : Calls Try.prog 44 #[.agg #[.int .i64 6, .int .i64 0, .string ⟨#[88]⟩, .slice none 0 0, .slice none 0 0], .agg #[.int .i64 1, .int .i64 0, .string ⟨#[]⟩, .slice none 0 0, .slice none 0 0]] W fun e w' => (∃ v, e = .returned v ∧ RT w' v (funT tX tI)) ∧ Below W.heap.size W w' :=
  fun_calls tX tI W none 0 none 0 none 0 none 0 (Nat.le_refl _) (Kd.C_nil _ _) (Nat.le_refl _) (Kd.C_nil _ _) (Nat.le_refl _) (Kd.C_nil _ _) (Nat.le_refl _) (Kd.C_nil _ _)
theorem fun_awake (W : World) : Calls Try.prog 44 #[.agg #[.int .i64 6, .int .i64 0, .string ⟨#[88]⟩, .slice none 0 0, .slice none 0 0], .agg #[.int .i64 1, .int .i64 0, .string ⟨#[]⟩, .slice none 0 0, .slice none 0 0]] W fun e w' => (∃ A3 c3 A4 c4, e = .returned (.agg #[.int .i64 7, .int .i64 0, .string ⟨#[]⟩, .slice A3 0 c3, .slice A4 2 c4]) ∧ Aside0 (RT w' (.agg #[.int .i64 7, .int .i64 0, .string ⟨#[]⟩, .slice A3 0 c3, .slice A4 2 c4]) (funT tX tI))) ∧ Below W.heap.size W w' := by
  refine (fun_awake0 W).mono ?_
  rintro e w' ⟨⟨v, rfl, A3, c3, A4, c4, rfl, h⟩, hb⟩
  exact ⟨⟨A3, c3, A4, c4, rfl, ⟨A3, c3, A4, c4, rfl, h⟩⟩, hb⟩
theorem rec_awake_calls {W Wf : World} {g g' c c' : Nat} {A3 : Option Addr} {c3 : Nat} {A4 : Option Addr} {c4 : Nat} (hf : RT Wf (.agg #[.int .i64 7, .int .i64 0, .string ⟨#[]⟩, .slice A3 0 c3, .slice A4 2 c4]) (funT tX tI)) (hw : Below Wf.heap.size Wf W)
    (hl : W.heap[g]? = some (.cells #[.string ⟨#[98]⟩, .string ⟨#[97]⟩] 9 (0, 0))) (ha : W.heap[g']? = some (.cells #[.int .i64 1, .int .i64 0, .string ⟨#[]⟩, .slice none 0 0, .slice none 0 0, .int .i64 7, .int .i64 0, .string ⟨#[]⟩, .slice A3 0 c3, .slice A4 2 c4] 26 (0, 0))) (hc : 2 ≤ c) (hc' : 2 ≤ c') :
    Calls Try.prog 40 #[.slice (some ⟨g, 0, none⟩) 2 c, .slice (some ⟨g', 0, none⟩) 2 c'] W fun e w' => (∃ A3 c3 A4 c4, e = .returned (.tuple #[.agg #[.int .i64 8, .int .i64 0, .string ⟨#[]⟩, .slice A3 2 c3, .slice A4 2 c4], .bool true]) ∧ RT w' (.agg #[.int .i64 8, .int .i64 0, .string ⟨#[]⟩, .slice A3 2 c3, .slice A4 2 c4]) tA) ∧ Below W.heap.size W w' := by
  obtain ⟨B3, d3, B4, d4, e, l3, g3, l4, g4⟩ := hf.below hw
  simp [funT] at e
  obtain ⟨⟨rfl, rfl⟩, rfl, rfl⟩ := e
  have := rec_calls 19 sort_small (by decide) (some ⟨g, 0, none⟩) (some ⟨g', 0, none⟩) c c' [⟨#[98]⟩, ⟨#[97]⟩] [tI, funT tX tI] W hc hc' (cS_two (blk_cell hl 0) (blk_cell hl 1))
    (c26_two' (a := tI) (b := funT tX tI) (blk_cell ha 0) (blk_cell ha 1) (blk_cell ha 2) (blk_cell ha 3) (blk_cell ha 4) (blk_cell ha 5) (blk_cell ha 6) (blk_cell ha 7) (blk_cell ha 8) (blk_cell ha 9) (Nat.le_refl _) (Kd.C_nil _ _) (Nat.le_refl _) (Kd.C_nil _ _) l3 g3 l4 g4) (by decide)
  rw [rec_awake] at this
  refine this.mono ?_
  rintro e w' ⟨⟨v, rfl, hv⟩, hb⟩
  obtain ⟨E3, e3, E4, e4, rfl, h⟩ := hv
  exact ⟨⟨E3, e3, E4, e4, rfl, E3, e3, E4, e4, rfl, h⟩, hb⟩

/-- What the program's functions answer at that record, in every world that keeps it. -/
structure Parts (W : World) (A3 : Option Addr) (c3 : Nat) (A4 : Option Addr) (c4 : Nat) : Prop where
  fld : Calls Try.prog 42 #[.agg #[.int .i64 8, .int .i64 0, .string ⟨#[]⟩, .slice A3 2 c3, .slice A4 2 c4], .string ⟨#[98]⟩] W fun e w' => (∃ B3 d3 B4 d4, e = .returned (.tuple #[.agg #[.int .i64 1, .int .i64 0, .string ⟨#[]⟩, .slice B3 0 d3, .slice B4 0 d4], .bool true])) ∧ Below W.heap.size W w'
  rgt : Calls Try.prog 26 #[.agg #[.int .i64 8, .int .i64 0, .string ⟨#[]⟩, .slice A3 2 c3, .slice A4 2 c4]] W fun e w' => e = .returned (.bool true) ∧ Below W.heap.size W w'
  nds : Calls Try.prog 27 #[.agg #[.int .i64 8, .int .i64 0, .string ⟨#[]⟩, .slice A3 2 c3, .slice A4 2 c4]] W fun e w' => e = .returned (.int .i64 5) ∧ Below W.heap.size W w'
  dep : Calls Try.prog 29 #[.agg #[.int .i64 8, .int .i64 0, .string ⟨#[]⟩, .slice A3 2 c3, .slice A4 2 c4]] W fun e w' => e = .returned (.int .i64 3) ∧ Below W.heap.size W w'
  vrs : Calls Try.prog 33 #[.agg #[.int .i64 8, .int .i64 0, .string ⟨#[]⟩, .slice A3 2 c3, .slice A4 2 c4]] W fun e w' => (∃ A c, e = .returned (.slice A 1 c)) ∧ Below W.heap.size W w'
  fit : Calls Try.prog 35 #[.agg #[.int .i64 8, .int .i64 0, .string ⟨#[]⟩, .slice A3 2 c3, .slice A4 2 c4]] W fun e w' => e = .returned (.bool true) ∧ Below W.heap.size W w'
  sme : Calls Try.prog 37 #[.agg #[.int .i64 8, .int .i64 0, .string ⟨#[]⟩, .slice A3 2 c3, .slice A4 2 c4], .agg #[.int .i64 8, .int .i64 0, .string ⟨#[]⟩, .slice A3 2 c3, .slice A4 2 c4]] W fun e w' => e = .returned (.bool true) ∧ Below W.heap.size W w'
  has : Calls Try.prog 31 #[.agg #[.int .i64 8, .int .i64 0, .string ⟨#[]⟩, .slice A3 2 c3, .slice A4 2 c4], .int .i64 7] W fun e w' => e = .returned (.bool true) ∧ Below W.heap.size W w'
theorem parts_of {W : World} {A3 : Option Addr} {c3 : Nat} {A4 : Option Addr} {c4 : Nat} (h : RT W (.agg #[.int .i64 8, .int .i64 0, .string ⟨#[]⟩, .slice A3 2 c3, .slice A4 2 c4]) tA) : Parts W A3 c3 A4 c4 := by
  obtain ⟨B3, d3, B4, d4, e, l3, g3, l4, g4⟩ := h
  simp [tA] at e
  obtain ⟨⟨rfl, rfl⟩, rfl, rfl⟩ := e
  refine ⟨?_, ?_, ?_, ?_, ?_, ?_, ?_, ?_⟩
  · have h := field_calls tA ⟨#[98]⟩ W A3 c3 A4 c4 l3 g3 g4
    rw [field_awake] at h
    refine h.mono ?_
    rintro e w' ⟨⟨v, rfl, E3, e3, E4, e4, rfl, _⟩, hb⟩
    exact ⟨⟨E3, e3, E4, e4, rfl⟩, hb⟩
  · have h := right_calls tA W A3 c3 A4 c4 l3 g3 l4 g4
    rw [right_awake] at h
    exact h
  · have h := nodes_calls tA W A3 c3 A4 c4 g4 (by decide)
    rw [nodes_awake] at h
    exact h
  · have h := depth_calls tA (by decide) W A3 c3 A4 c4 l3 g3 l4 g4
    rw [depth_awake] at h
    exact h
  · have h := vars_calls tA W A3 c3 A4 c4 g4 (by decide)
    rw [vars_awake] at h
    refine h.mono ?_
    rintro e w' ⟨⟨A, c, rfl, _⟩, hb⟩
    exact ⟨⟨A, c, rfl⟩, hb⟩
  · have h := fits_calls tA W A3 c3 A4 c4 g4
    rw [show decide ((preT tA).length ≤ 300) = true by decide] at h
    exact h
  · have h := same_calls tA tA W A3 c3 A4 c4 A3 c3 A4 c4 l3 g3 l4 g4 l3 g3 l4 g4
    rw [eqB_self] at h
    exact h
  · have h := has_calls tA 7 W A3 c3 A4 c4 g4
    rw [has_awake] at h
    exact h
theorem tcells {wc W : World} {bt : Nat} {A3 : Option Addr} {c3 : Nat} {A4 : Option Addr} {c4 : Nat} (h : wc.heap[bt]? = some (.cells #[.int .i64 8, .int .i64 0, .string ⟨#[]⟩, .slice A3 2 c3, .slice A4 2 c4] 26 (0, 0))) (hb : Below wc.heap.size wc W) :
    W.cell? ⟨bt, 0, none⟩ = some (.int .i64 8) ∧ W.cell? ⟨bt, 1, none⟩ = some (.int .i64 0) ∧ W.cell? ⟨bt, 2, none⟩ = some (.string ⟨#[]⟩) ∧ W.cell? ⟨bt, 3, none⟩ = some (.slice A3 2 c3) ∧ W.cell? ⟨bt, 4, none⟩ = some (.slice A4 2 c4) := by
  have h' := blk_below h hb
  exact ⟨blk_cell h' 0, blk_cell h' 1, blk_cell h' 2, blk_cell h' 3, blk_cell h' 4⟩
set_option maxRecDepth 100000 in
set_option maxHeartbeats 40000000 in
theorem awake_calls (w : World) : Calls Try.prog 25 #[] w fun e w' => e = .returned (.bool true) ∧ Below w.heap.size w w' := by
  go_enter Try.func25, Try.ntmps25
  go_upto_region 3 with (fail)
  go_cut [3, 4] (fun v3 v4 wc => ∃ (bt : Nat) (A3 : Option Addr) (c3 : Nat) (A4 : Option Addr) (c4 : Nat), v3 = .pointer (some ⟨bt, 0, none⟩) ∧ v4 = .bool true ∧ Aside0 (wc.heap[bt]? = some (.cells #[.int .i64 8, .int .i64 0, .string ⟨#[]⟩, .slice A3 2 c3, .slice A4 2 c4] 26 (0, 0))) ∧ Aside0 (RT wc (.agg #[.int .i64 8, .int .i64 0, .string ⟨#[]⟩, .slice A3 2 c3, .slice A4 2 c4]) tA) ∧ Aside0 (Below w.heap.size w wc))
  case first =>
    have hS : S0 w ((w.alloc (.cells #[.int .i64 1, .int .i64 0, .string ⟨#[]⟩, .slice none 0 0, .slice none 0 0] 26)).alloc (.cells #[.int .i64 6, .int .i64 0, .string ⟨#[88]⟩, .slice none 0 0, .slice none 0 0] 26)) := by
      refine ⟨?_, ?_, ?_, ?_, ?_, ?_, ?_, ?_, ?_, ?_, below_alloc (below_alloc (Below.refl _ _) _) _, by simp⟩ <;> (simp; done)
    generalize (w.alloc (.cells #[.int .i64 1, .int .i64 0, .string ⟨#[]⟩, .slice none 0 0, .slice none 0 0] 26)).alloc (.cells #[.int .i64 6, .int .i64 0, .string ⟨#[88]⟩, .slice none 0 0, .slice none 0 0] 26) = W0 at *
    have hz0 : w.heap.size + 1 < W0.heap.size := hS.2.2.2.2.2.2.2.2.2.2.2
    rename_i Q0 K0 hrest J0 K1 hJ hM
    clear hrest
    refine start_ (n := 13) (S := S0 w) (ds := [11]) #[false, false, false, false, false, false, false, false, false, false, false, false, false] (by kernel_rfl) rfl rfl hS.drew (fun hHeld => ?_)
    obtain ⟨wd, hwd⟩ : ∃ x, x = W0.drew := ⟨_, rfl⟩
    rw [← hwd] at hHeld ⊢
    clear hwd hS hz0
    refine take_ (i := 1) (N := some 11) (v := ?_) (a' := ?_) #[false, true, false, false, false, false, false, false, false, false, false, false, false] rfl rfl (by kernel_rfl) (fun _ _ _ h => h) (Or.inl ⟨by rfl, ?_⟩) hHeld ?_ ?_
    rotate_left
    · rintro w' ⟨s0, s1, s2, s3, s4, s5, s6, s7, s8, s9, _⟩
      go_simp
      with_reducible rfl
    rotate_left
    · simp only [putAll, Act.put, List.setIfInBounds_toArray, List.set_cons_zero, List.set_cons_succ]
      rfl
    refine take_ (i := 2) (N := some 12) (v := ?_) (a' := ?_) #[false, true, true, false, false, false, false, false, false, false, false, false, false] rfl rfl (by kernel_rfl) (fun _ _ _ h => h) (Or.inl ⟨by rfl, ?_⟩) hHeld ?_ ?_
    rotate_left
    · rintro w' ⟨s0, s1, s2, s3, s4, s5, s6, s7, s8, s9, _⟩
      go_simp
      with_reducible rfl
    rotate_left
    · simp only [putAll, Act.put, List.setIfInBounds_toArray, List.set_cons_zero, List.set_cons_succ]
      rfl
    refine take_ (i := 3) (N := some 13) (v := ?_) (a' := ?_) #[false, true, true, true, false, false, false, false, false, false, false, false, false] rfl rfl (by kernel_rfl) (fun _ _ _ h => h) (Or.inl ⟨by rfl, ?_⟩) hHeld ?_ ?_
    rotate_left
    · rintro w' ⟨s0, s1, s2, s3, s4, s5, s6, s7, s8, s9, _⟩
      go_simp
      with_reducible rfl
    rotate_left
    · simp only [putAll, Act.put, List.setIfInBounds_toArray, List.set_cons_zero, List.set_cons_succ]
      rfl
    refine join_ (σ := Nat × Nat × Nat × Option Addr × Nat × Option Addr × Nat × Option Addr × Nat × Option Addr × Nat) 2 #[true, true, true, true, true, true, true, true, true, true, true, false, false] (fun s_ => [(10, .slice (some ⟨s_.1, 0, none⟩) 2 2), (3, .pointer (some ⟨s_.2.1, 0, none⟩)), (14, Value.agg #[.int .i64 7, .int .i64 0, .string ⟨#[]⟩, .slice s_.2.2.2.1 0 s_.2.2.2.2.1, .slice s_.2.2.2.2.2.1 2 s_.2.2.2.2.2.2.1]), (15, .slice (some ⟨s_.2.2.1, 0, none⟩) 2 2), (16, .tuple #[Value.agg #[.int .i64 8, .int .i64 0, .string ⟨#[]⟩, .slice s_.2.2.2.2.2.2.2.1 2 s_.2.2.2.2.2.2.2.2.1, .slice s_.2.2.2.2.2.2.2.2.2.1 2 s_.2.2.2.2.2.2.2.2.2.2], .bool true]), (9, .tuple #[Value.agg #[.int .i64 8, .int .i64 0, .string ⟨#[]⟩, .slice s_.2.2.2.2.2.2.2.1 2 s_.2.2.2.2.2.2.2.2.1, .slice s_.2.2.2.2.2.2.2.2.2.1 2 s_.2.2.2.2.2.2.2.2.2.2], .bool true]), (17, Value.agg #[.int .i64 8, .int .i64 0, .string ⟨#[]⟩, .slice s_.2.2.2.2.2.2.2.1 2 s_.2.2.2.2.2.2.2.2.1, .slice s_.2.2.2.2.2.2.2.2.2.1 2 s_.2.2.2.2.2.2.2.2.2.2]), (18, .bool true)]) (fun s_ w' => S0 w w' ∧ w'.heap[s_.1]? = some (Obj.cells #[.string ⟨#[98]⟩, .string ⟨#[97]⟩] 9 (0, 0)) ∧ (Plain w' s_.2.1 ∧ w.heap.size ≤ s_.2.1) ∧ RT w' (Value.agg #[.int .i64 8, .int .i64 0, .string ⟨#[]⟩, .slice s_.2.2.2.2.2.2.2.1 2 s_.2.2.2.2.2.2.2.2.1, .slice s_.2.2.2.2.2.2.2.2.2.1 2 s_.2.2.2.2.2.2.2.2.2.2]) tA) ?_ ?_
    · skip
      rintro ⟨gl, bt, gr, A3, c3, A4, c4, E3, e3, E4, e4⟩ wj hj
      obtain ⟨hHeld, hgl, ⟨hpl, hpb⟩, hra⟩ := hj
      dsimp only at hgl hpl hpb hra
      have HGL := Aside0.mk hgl
      have HPL := Aside0.mk hpl
      have HPB := Aside0.mk hpb
      have HRA := Aside0.mk hra
      clear hgl hpl hpb hra
      refine norm_ (a' := ?_) ?_ ?_
      rotate_left
      · simp only [putAll, Act.put, List.setIfInBounds_toArray, List.set_cons_zero, List.set_cons_succ]
        rfl
      refine last_ (i := 11) (N := none) #[true, true, true, true, true, true, true, true, true, true, true, true, false] rfl rfl (by kernel_rfl) (by decide) (fun K hK => ?_)
      have p0 := blk_cell (show wj.heap[bt]? = _ from HPL.out) 0
      have p1 := blk_cell (show wj.heap[bt]? = _ from HPL.out) 1
      have p2 := blk_cell (show wj.heap[bt]? = _ from HPL.out) 2
      have p3 := blk_cell (show wj.heap[bt]? = _ from HPL.out) 3
      have p4 := blk_cell (show wj.heap[bt]? = _ from HPL.out) 4
      have pz := fun i => blk_frozen (show wj.heap[bt]? = _ from HPL.out) i
      simp at p0 p1 p2 p3 p4
      go_simp
      refine hK.out _ _ ?_
      clear hK K p0 p1 p2 p3 p4 pz
      refine pure_ (i := 12) (N := some 4) (v := ?_) (a' := ?_) #[true, true, true, true, true, true, true, true, true, true, true, true, true] rfl rfl (by kernel_rfl) (fun _ _ _ h => h) (Or.inl ⟨by rfl, ?_⟩) ?_ ?_
      rotate_left
      · intro w'
        go_simp
        with_reducible rfl
      rotate_left
      · simp only [putAll, Act.put, List.setIfInBounds_toArray, List.set_cons_zero, List.set_cons_succ]
        rfl
      refine done_ (by kernel_rfl) ?_
      go_wp2_with fail
      all_goals
        go_meet
        case rel => exact ⟨bt, E3, e3, E4, e4, rfl, rfl, ⟨put5P HPL.out⟩, ⟨HRA.out.off offB_put5 HPL.out full_awake⟩, ⟨below5 hHeld.low HPB.out⟩⟩
    intro hC113
    refine join_ (σ := Nat × Nat × Nat × Option Addr × Nat × Option Addr × Nat × Option Addr × Nat × Option Addr × Nat) 3 #[true, true, true, true, true, true, true, true, true, true, false, false, false] (fun s_ => [(10, .slice (some ⟨s_.1, 0, none⟩) 2 2), (14, Value.agg #[.int .i64 7, .int .i64 0, .string ⟨#[]⟩, .slice s_.2.2.2.1 0 s_.2.2.2.2.1, .slice s_.2.2.2.2.2.1 2 s_.2.2.2.2.2.2.1]), (15, .slice (some ⟨s_.2.2.1, 0, none⟩) 2 2), (16, .tuple #[Value.agg #[.int .i64 8, .int .i64 0, .string ⟨#[]⟩, .slice s_.2.2.2.2.2.2.2.1 2 s_.2.2.2.2.2.2.2.2.1, .slice s_.2.2.2.2.2.2.2.2.2.1 2 s_.2.2.2.2.2.2.2.2.2.2], .bool true]), (9, .tuple #[Value.agg #[.int .i64 8, .int .i64 0, .string ⟨#[]⟩, .slice s_.2.2.2.2.2.2.2.1 2 s_.2.2.2.2.2.2.2.2.1, .slice s_.2.2.2.2.2.2.2.2.2.1 2 s_.2.2.2.2.2.2.2.2.2.2], .bool true]), (17, Value.agg #[.int .i64 8, .int .i64 0, .string ⟨#[]⟩, .slice s_.2.2.2.2.2.2.2.1 2 s_.2.2.2.2.2.2.2.2.1, .slice s_.2.2.2.2.2.2.2.2.2.1 2 s_.2.2.2.2.2.2.2.2.2.2]), (18, .bool true)]) (fun s_ w' => S0 w w' ∧ w'.heap[s_.1]? = some (Obj.cells #[.string ⟨#[98]⟩, .string ⟨#[97]⟩] 9 (0, 0)) ∧ RT w' (Value.agg #[.int .i64 8, .int .i64 0, .string ⟨#[]⟩, .slice s_.2.2.2.2.2.2.2.1 2 s_.2.2.2.2.2.2.2.2.1, .slice s_.2.2.2.2.2.2.2.2.2.1 2 s_.2.2.2.2.2.2.2.2.2.2]) tA) ?_ ?_
    · skip
      rintro ⟨gl, bt, gr, A3, c3, A4, c4, E3, e3, E4, e4⟩ wj hj
      obtain ⟨hHeld, hgl, hra⟩ := hj
      dsimp only at hgl hra
      have HGL := Aside0.mk hgl
      have HRA := Aside0.mk hra
      clear hgl hra
      refine norm_ (a' := ?_) ?_ ?_
      rotate_left
      · simp only [putAll, Act.put, List.setIfInBounds_toArray, List.set_cons_zero, List.set_cons_succ]
        rfl
      refine one_ (i := 10) (N := some 3) #[true, true, true, true, true, true, true, true, true, true, true, false, false] rfl rfl (by kernel_rfl) (by decide) (fun K hK => ?_)
      have hbt := hHeld.2.2.2.2.2.2.2.2.2.2.2
      go_simp
      refine hK.out _ _ (hHeld.alloc _) (fun hHeld => ?_)
      clear hK K
      exact norm_ (by simp only [putAll, Act.put, List.setIfInBounds_toArray, List.set_cons_zero, List.set_cons_succ]) (hC113 (gl, wj.heap.size, gr, A3, c3, A4, c4, E3, e3, E4, e4) _ ⟨hHeld, blk_alloc HGL.out _, ⟨blk_newR _ _ rfl, Nat.le_of_lt (Nat.lt_of_succ_lt hbt)⟩, RT.below HRA.out (below_alloc (Below.refl _ _) _)⟩)
    intro hC103
    refine join_ (σ := Nat × Nat × Nat × Option Addr × Nat × Option Addr × Nat × Option Addr × Nat × Option Addr × Nat) 6 #[true, true, true, true, true, true, false, false, false, false, true, false, false] (fun s_ => [(10, .slice (some ⟨s_.1, 0, none⟩) 2 2), (3, .pointer (some ⟨s_.2.1, 0, none⟩)), (14, Value.agg #[.int .i64 7, .int .i64 0, .string ⟨#[]⟩, .slice s_.2.2.2.1 0 s_.2.2.2.2.1, .slice s_.2.2.2.2.2.1 2 s_.2.2.2.2.2.2.1]), (15, .slice (some ⟨s_.2.2.1, 0, none⟩) 2 2)]) (fun s_ w' => S0 w w' ∧ w'.heap[s_.1]? = some (Obj.cells #[.string ⟨#[98]⟩, .string ⟨#[97]⟩] 9 (0, 0)) ∧ (Plain w' s_.2.1 ∧ w.heap.size ≤ s_.2.1) ∧ RT w' (Value.agg #[.int .i64 7, .int .i64 0, .string ⟨#[]⟩, .slice s_.2.2.2.1 0 s_.2.2.2.2.1, .slice s_.2.2.2.2.2.1 2 s_.2.2.2.2.2.2.1]) (funT tX tI) ∧ w'.heap[s_.2.2.1]? = some (Obj.cells #[.int .i64 1, .int .i64 0, .string ⟨#[]⟩, .slice none 0 0, .slice none 0 0, .int .i64 7, .int .i64 0, .string ⟨#[]⟩, .slice s_.2.2.2.1 0 s_.2.2.2.2.1, .slice s_.2.2.2.2.2.1 2 s_.2.2.2.2.2.2.1] 26 (0, 0))) ?_ ?_
    · skip
      rintro ⟨gl, bt, gr, A3, c3, A4, c4, E3, e3, E4, e4⟩ wj hj
      obtain ⟨hHeld, hgl, ⟨hpl, hpb⟩, hrt, hgr⟩ := hj
      dsimp only at hgl hpl hpb hrt hgr
      have HGL := Aside0.mk hgl
      have HPL := Aside0.mk hpl
      have HPB := Aside0.mk hpb
      have HRT := Aside0.mk hrt
      have HGR := Aside0.mk hgr
      clear hgl hpl hpb hrt hgr
      refine norm_ (a' := ?_) ?_ ?_
      rotate_left
      · simp only [putAll, Act.put, List.setIfInBounds_toArray, List.set_cons_zero, List.set_cons_succ]
        rfl
      refine one_ (i := 6) (N := some 16) #[true, true, true, true, true, true, true, false, false, false, true, false, false] rfl rfl (by kernel_rfl) (by decide) (fun K hK => ?_)
      refine goes_ Try.func40 (by kernel_rfl) rfl #[.slice (some ⟨gl, 0, none⟩) 2 2, .slice (some ⟨gr, 0, none⟩) 2 2] (by rfl) rfl rfl (by (try simp only [List.map_toArray, List.map_cons, List.map_nil]); first | done | rfl) ?_
      with_reducible refine (rec_awake_calls HRT.out (Below.refl _ _) HGL.out HGR.out (Nat.le_refl _) (Nat.le_refl _)).mono ?_
      rintro e wr ⟨⟨E3, e3, E4, e4, rfl, hvr⟩, hbr⟩
      refine ⟨_, rfl, ?_⟩
      refine hK.out _ _ (hHeld.call hbr) (fun hHeld => ?_)
      clear hK K
      refine norm_ (a' := ?_) ?_ ?_
      rotate_left
      · show Act.put _ (some 16) _ = _
        simp only [putAll, Act.put, List.setIfInBounds_toArray, List.set_cons_zero, List.set_cons_succ]
        rfl
      refine pure_ (i := 7) (N := some 9) (v := ?_) (a' := ?_) #[true, true, true, true, true, true, true, true, false, false, true, false, false] rfl rfl (by kernel_rfl) (fun _ _ _ h => h) (Or.inl ⟨by rfl, ?_⟩) ?_ ?_
      rotate_left
      · intro w'
        go_simp
        with_reducible rfl
      rotate_left
      · simp only [putAll, Act.put, List.setIfInBounds_toArray, List.set_cons_zero, List.set_cons_succ]
        rfl
      refine pure_ (i := 8) (N := some 17) (v := ?_) (a' := ?_) #[true, true, true, true, true, true, true, true, true, false, true, false, false] rfl rfl (by kernel_rfl) (fun _ _ _ h => h) (Or.inl ⟨by rfl, ?_⟩) ?_ ?_
      rotate_left
      · intro w'
        go_simp
        with_reducible rfl
      rotate_left
      · simp only [putAll, Act.put, List.setIfInBounds_toArray, List.set_cons_zero, List.set_cons_succ]
        rfl
      refine pure_ (i := 9) (N := some 18) (v := ?_) (a' := ?_) #[true, true, true, true, true, true, true, true, true, true, true, false, false] rfl rfl (by kernel_rfl) (fun _ _ _ h => h) (Or.inl ⟨by rfl, ?_⟩) ?_ ?_
      rotate_left
      · intro w'
        go_simp
        with_reducible rfl
      rotate_left
      · simp only [putAll, Act.put, List.setIfInBounds_toArray, List.set_cons_zero, List.set_cons_succ]
        rfl
      exact norm_ (by simp only [putAll, Act.put, List.setIfInBounds_toArray, List.set_cons_zero, List.set_cons_succ]) (hC113 (gl, bt, gr, A3, c3, A4, c4, E3, e3, E4, e4) _ ⟨hHeld, blk_below HGL.out hbr, ⟨blk_below HPL.out hbr, HPB.out⟩, hvr⟩)
    intro hC112
    refine join_ (σ := Nat × Nat × Nat × Option Addr × Nat × Option Addr × Nat × Option Addr × Nat × Option Addr × Nat) 7 #[true, true, true, true, true, false, false, false, false, false, true, false, false] (fun s_ => [(10, .slice (some ⟨s_.1, 0, none⟩) 2 2), (3, .pointer (some ⟨s_.2.1, 0, none⟩)), (14, Value.agg #[.int .i64 7, .int .i64 0, .string ⟨#[]⟩, .slice s_.2.2.2.1 0 s_.2.2.2.2.1, .slice s_.2.2.2.2.2.1 2 s_.2.2.2.2.2.2.1])]) (fun s_ w' => S0 w w' ∧ w'.heap[s_.1]? = some (Obj.cells #[.string ⟨#[98]⟩, .string ⟨#[97]⟩] 9 (0, 0)) ∧ (Plain w' s_.2.1 ∧ w.heap.size ≤ s_.2.1) ∧ RT w' (Value.agg #[.int .i64 7, .int .i64 0, .string ⟨#[]⟩, .slice s_.2.2.2.1 0 s_.2.2.2.2.1, .slice s_.2.2.2.2.2.1 2 s_.2.2.2.2.2.2.1]) (funT tX tI)) ?_ ?_
    · skip
      rintro ⟨gl, bt, gr, A3, c3, A4, c4, E3, e3, E4, e4⟩ wj hj
      obtain ⟨hHeld, hgl, ⟨hpl, hpb⟩, hrt⟩ := hj
      dsimp only at hgl hpl hpb hrt
      have HGL := Aside0.mk hgl
      have HPL := Aside0.mk hpl
      have HPB := Aside0.mk hpb
      have HRT := Aside0.mk hrt
      clear hgl hpl hpb hrt
      refine norm_ (a' := ?_) ?_ ?_
      rotate_left
      · simp only [putAll, Act.put, List.setIfInBounds_toArray, List.set_cons_zero, List.set_cons_succ]
        rfl
      refine one_ (i := 5) (N := some 15) #[true, true, true, true, true, true, false, false, false, false, true, false, false] rfl rfl (by kernel_rfl) (by decide) (fun K hK => ?_)
      go_simp
      refine hK.out _ _ (hHeld.alloc _) (fun hHeld => ?_)
      clear hK K
      exact norm_ (by simp only [putAll, Act.put, List.setIfInBounds_toArray, List.set_cons_zero, List.set_cons_succ]) (hC112 (gl, bt, wj.heap.size, A3, c3, A4, c4, none, 0, none, 0) _ ⟨hHeld, blk_alloc HGL.out _, ⟨blk_alloc HPL.out _, HPB.out⟩, RT.below HRT.out (below_alloc (Below.refl _ _) _), blk_newR _ _ rfl⟩)
    intro hC111
    refine join_ (σ := Nat × Nat × Nat × Option Addr × Nat × Option Addr × Nat × Option Addr × Nat × Option Addr × Nat) 7 #[false, true, true, true, true, true, false, false, false, false, true, false, false] (fun s_ => [(3, .pointer (some ⟨s_.2.1, 0, none⟩)), (14, Value.agg #[.int .i64 7, .int .i64 0, .string ⟨#[]⟩, .slice s_.2.2.2.1 0 s_.2.2.2.2.1, .slice s_.2.2.2.2.2.1 2 s_.2.2.2.2.2.2.1]), (15, .slice (some ⟨s_.2.2.1, 0, none⟩) 2 2)]) (fun s_ w' => S0 w w' ∧ (Plain w' s_.2.1 ∧ w.heap.size ≤ s_.2.1) ∧ RT w' (Value.agg #[.int .i64 7, .int .i64 0, .string ⟨#[]⟩, .slice s_.2.2.2.1 0 s_.2.2.2.2.1, .slice s_.2.2.2.2.2.1 2 s_.2.2.2.2.2.2.1]) (funT tX tI) ∧ w'.heap[s_.2.2.1]? = some (Obj.cells #[.int .i64 1, .int .i64 0, .string ⟨#[]⟩, .slice none 0 0, .slice none 0 0, .int .i64 7, .int .i64 0, .string ⟨#[]⟩, .slice s_.2.2.2.1 0 s_.2.2.2.2.1, .slice s_.2.2.2.2.2.1 2 s_.2.2.2.2.2.2.1] 26 (0, 0))) ?_ ?_
    · skip
      rintro ⟨gl, bt, gr, A3, c3, A4, c4, E3, e3, E4, e4⟩ wj hj
      obtain ⟨hHeld, ⟨hpl, hpb⟩, hrt, hgr⟩ := hj
      dsimp only at hpl hpb hrt hgr
      have HPL := Aside0.mk hpl
      have HPB := Aside0.mk hpb
      have HRT := Aside0.mk hrt
      have HGR := Aside0.mk hgr
      clear hpl hpb hrt hgr
      refine norm_ (a' := ?_) ?_ ?_
      rotate_left
      · simp only [putAll, Act.put, List.setIfInBounds_toArray, List.set_cons_zero, List.set_cons_succ]
        rfl
      refine one_ (i := 0) (N := some 10) #[true, true, true, true, true, true, false, false, false, false, true, false, false] rfl rfl (by kernel_rfl) (by decide) (fun K hK => ?_)
      go_simp
      refine hK.out _ _ (hHeld.alloc _) (fun hHeld => ?_)
      clear hK K
      exact norm_ (by simp only [putAll, Act.put, List.setIfInBounds_toArray, List.set_cons_zero, List.set_cons_succ]) (hC112 (wj.heap.size, bt, gr, A3, c3, A4, c4, none, 0, none, 0) _ ⟨hHeld, blk_newR _ _ rfl, ⟨blk_alloc HPL.out _, HPB.out⟩, RT.below HRT.out (below_alloc (Below.refl _ _) _), blk_alloc HGR.out _⟩)
    intro hC012
    refine join_ (σ := Nat × Nat × Nat × Option Addr × Nat × Option Addr × Nat × Option Addr × Nat × Option Addr × Nat) 7 #[true, true, true, true, true, true, false, false, false, false, false, false, false] (fun s_ => [(10, .slice (some ⟨s_.1, 0, none⟩) 2 2), (14, Value.agg #[.int .i64 7, .int .i64 0, .string ⟨#[]⟩, .slice s_.2.2.2.1 0 s_.2.2.2.2.1, .slice s_.2.2.2.2.2.1 2 s_.2.2.2.2.2.2.1]), (15, .slice (some ⟨s_.2.2.1, 0, none⟩) 2 2)]) (fun s_ w' => S0 w w' ∧ w'.heap[s_.1]? = some (Obj.cells #[.string ⟨#[98]⟩, .string ⟨#[97]⟩] 9 (0, 0)) ∧ RT w' (Value.agg #[.int .i64 7, .int .i64 0, .string ⟨#[]⟩, .slice s_.2.2.2.1 0 s_.2.2.2.2.1, .slice s_.2.2.2.2.2.1 2 s_.2.2.2.2.2.2.1]) (funT tX tI) ∧ w'.heap[s_.2.2.1]? = some (Obj.cells #[.int .i64 1, .int .i64 0, .string ⟨#[]⟩, .slice none 0 0, .slice none 0 0, .int .i64 7, .int .i64 0, .string ⟨#[]⟩, .slice s_.2.2.2.1 0 s_.2.2.2.2.1, .slice s_.2.2.2.2.2.1 2 s_.2.2.2.2.2.2.1] 26 (0, 0))) ?_ ?_
    · skip
      rintro ⟨gl, bt, gr, A3, c3, A4, c4, E3, e3, E4, e4⟩ wj hj
      obtain ⟨hHeld, hgl, hrt, hgr⟩ := hj
      dsimp only at hgl hrt hgr
      have HGL := Aside0.mk hgl
      have HRT := Aside0.mk hrt
      have HGR := Aside0.mk hgr
      clear hgl hrt hgr
      refine norm_ (a' := ?_) ?_ ?_
      rotate_left
      · simp only [putAll, Act.put, List.setIfInBounds_toArray, List.set_cons_zero, List.set_cons_succ]
        rfl
      refine two_ (i := 6) (j := 10) (Ni := some 16) (Nj := some 3) #[true, true, true, true, true, true, true, false, false, false, false, false, false] #[true, true, true, true, true, true, false, false, false, false, true, false, false] rfl rfl rfl rfl (by kernel_rfl) (by decide) (by decide) (fun K hK => ?_) (fun K hK => ?_)
      · skip
        refine goes_ Try.func40 (by kernel_rfl) rfl #[.slice (some ⟨gl, 0, none⟩) 2 2, .slice (some ⟨gr, 0, none⟩) 2 2] (by rfl) rfl rfl (by (try simp only [List.map_toArray, List.map_cons, List.map_nil]); first | done | rfl) ?_
        with_reducible refine (rec_awake_calls HRT.out (Below.refl _ _) HGL.out HGR.out (Nat.le_refl _) (Nat.le_refl _)).mono ?_
        rintro e wr ⟨⟨E3, e3, E4, e4, rfl, hvr⟩, hbr⟩
        refine ⟨_, rfl, ?_⟩
        refine hK.out _ _ (hHeld.call hbr) (fun hHeld => ?_)
        clear hK K
        refine norm_ (a' := ?_) ?_ ?_
        rotate_left
        · show Act.put _ (some 16) _ = _
          simp only [putAll, Act.put, List.setIfInBounds_toArray, List.set_cons_zero, List.set_cons_succ]
          rfl
        refine pure_ (i := 7) (N := some 9) (v := ?_) (a' := ?_) #[true, true, true, true, true, true, true, true, false, false, false, false, false] rfl rfl (by kernel_rfl) (fun _ _ _ h => h) (Or.inl ⟨by rfl, ?_⟩) ?_ ?_
        rotate_left
        · intro w'
          go_simp
          with_reducible rfl
        rotate_left
        · simp only [putAll, Act.put, List.setIfInBounds_toArray, List.set_cons_zero, List.set_cons_succ]
          rfl
        refine pure_ (i := 8) (N := some 17) (v := ?_) (a' := ?_) #[true, true, true, true, true, true, true, true, true, false, false, false, false] rfl rfl (by kernel_rfl) (fun _ _ _ h => h) (Or.inl ⟨by rfl, ?_⟩) ?_ ?_
        rotate_left
        · intro w'
          go_simp
          with_reducible rfl
        rotate_left
        · simp only [putAll, Act.put, List.setIfInBounds_toArray, List.set_cons_zero, List.set_cons_succ]
          rfl
        refine pure_ (i := 9) (N := some 18) (v := ?_) (a' := ?_) #[true, true, true, true, true, true, true, true, true, true, false, false, false] rfl rfl (by kernel_rfl) (fun _ _ _ h => h) (Or.inl ⟨by rfl, ?_⟩) ?_ ?_
        rotate_left
        · intro w'
          go_simp
          with_reducible rfl
        rotate_left
        · simp only [putAll, Act.put, List.setIfInBounds_toArray, List.set_cons_zero, List.set_cons_succ]
          rfl
        exact norm_ (by simp only [putAll, Act.put, List.setIfInBounds_toArray, List.set_cons_zero, List.set_cons_succ]) (hC103 (gl, 0, gr, A3, c3, A4, c4, E3, e3, E4, e4) _ ⟨hHeld, blk_below HGL.out hbr, hvr⟩)
      · skip
        have hbt := hHeld.2.2.2.2.2.2.2.2.2.2.2
        go_simp
        refine hK.out _ _ (hHeld.alloc _) (fun hHeld => ?_)
        clear hK K
        exact norm_ (by simp only [putAll, Act.put, List.setIfInBounds_toArray, List.set_cons_zero, List.set_cons_succ]) (hC112 (gl, wj.heap.size, gr, A3, c3, A4, c4, none, 0, none, 0) _ ⟨hHeld, blk_alloc HGL.out _, ⟨blk_newR _ _ rfl, Nat.le_of_lt (Nat.lt_of_succ_lt hbt)⟩, RT.below HRT.out (below_alloc (Below.refl _ _) _), blk_alloc HGR.out _⟩)
    intro hC102
    refine join_ (σ := Nat × Nat × Nat × Option Addr × Nat × Option Addr × Nat × Option Addr × Nat × Option Addr × Nat) 8 #[true, true, true, true, false, false, false, false, false, false, true, false, false] (fun s_ => [(10, .slice (some ⟨s_.1, 0, none⟩) 2 2), (3, .pointer (some ⟨s_.2.1, 0, none⟩))]) (fun s_ w' => S0 w w' ∧ w'.heap[s_.1]? = some (Obj.cells #[.string ⟨#[98]⟩, .string ⟨#[97]⟩] 9 (0, 0)) ∧ (Plain w' s_.2.1 ∧ w.heap.size ≤ s_.2.1)) ?_ ?_
    · skip
      rintro ⟨gl, bt, gr, A3, c3, A4, c4, E3, e3, E4, e4⟩ wj hj
      obtain ⟨hHeld, hgl, ⟨hpl, hpb⟩⟩ := hj
      dsimp only at hgl hpl hpb
      have HGL := Aside0.mk hgl
      have HPL := Aside0.mk hpl
      have HPB := Aside0.mk hpb
      clear hgl hpl hpb
      refine norm_ (a' := ?_) ?_ ?_
      rotate_left
      · simp only [putAll, Act.put, List.setIfInBounds_toArray, List.set_cons_zero, List.set_cons_succ]
        rfl
      refine one_ (i := 4) (N := some 14) #[true, true, true, true, true, false, false, false, false, false, true, false, false] rfl rfl (by kernel_rfl) (by decide) (fun K hK => ?_)
      refine goes_ Try.func44 (by kernel_rfl) rfl #[.agg #[.int .i64 6, .int .i64 0, .string ⟨#[88]⟩, .slice none 0 0, .slice none 0 0], .agg #[.int .i64 1, .int .i64 0, .string ⟨#[]⟩, .slice none 0 0, .slice none 0 0]] (by rfl) rfl rfl (by (try simp only [List.map_toArray, List.map_cons, List.map_nil]); first | done | rfl) ?_
      with_reducible refine (fun_awake _).mono ?_
      rintro e wf ⟨⟨A3, c3, A4, c4, rfl, hvf⟩, hbf⟩
      refine ⟨_, rfl, ?_⟩
      refine hK.out _ _ (hHeld.call hbf) (fun hHeld => ?_)
      clear hK K
      refine norm_ (a' := ?_) ?_ ?_
      rotate_left
      · show Act.put _ (some 14) _ = _
        simp only [putAll, Act.put, List.setIfInBounds_toArray, List.set_cons_zero, List.set_cons_succ]
        rfl
      exact norm_ (by simp only [putAll, Act.put, List.setIfInBounds_toArray, List.set_cons_zero, List.set_cons_succ]) (hC111 (gl, bt, 0, A3, c3, A4, c4, none, 0, none, 0) _ ⟨hHeld, blk_below HGL.out hbf, ⟨blk_below HPL.out hbf, HPB.out⟩, hvf.out⟩)
    intro hC110
    refine join_ (σ := Nat × Nat × Nat × Option Addr × Nat × Option Addr × Nat × Option Addr × Nat × Option Addr × Nat) 8 #[false, true, true, true, true, false, false, false, false, false, true, false, false] (fun s_ => [(3, .pointer (some ⟨s_.2.1, 0, none⟩)), (14, Value.agg #[.int .i64 7, .int .i64 0, .string ⟨#[]⟩, .slice s_.2.2.2.1 0 s_.2.2.2.2.1, .slice s_.2.2.2.2.2.1 2 s_.2.2.2.2.2.2.1])]) (fun s_ w' => S0 w w' ∧ (Plain w' s_.2.1 ∧ w.heap.size ≤ s_.2.1) ∧ RT w' (Value.agg #[.int .i64 7, .int .i64 0, .string ⟨#[]⟩, .slice s_.2.2.2.1 0 s_.2.2.2.2.1, .slice s_.2.2.2.2.2.1 2 s_.2.2.2.2.2.2.1]) (funT tX tI)) ?_ ?_
    · skip
      rintro ⟨gl, bt, gr, A3, c3, A4, c4, E3, e3, E4, e4⟩ wj hj
      obtain ⟨hHeld, ⟨hpl, hpb⟩, hrt⟩ := hj
      dsimp only at hpl hpb hrt
      have HPL := Aside0.mk hpl
      have HPB := Aside0.mk hpb
      have HRT := Aside0.mk hrt
      clear hpl hpb hrt
      refine norm_ (a' := ?_) ?_ ?_
      rotate_left
      · simp only [putAll, Act.put, List.setIfInBounds_toArray, List.set_cons_zero, List.set_cons_succ]
        rfl
      refine two_ (i := 0) (j := 5) (Ni := some 10) (Nj := some 15) #[true, true, true, true, true, false, false, false, false, false, true, false, false] #[false, true, true, true, true, true, false, false, false, false, true, false, false] rfl rfl rfl rfl (by kernel_rfl) (by decide) (by decide) (fun K hK => ?_) (fun K hK => ?_)
      · skip
        go_simp
        refine hK.out _ _ (hHeld.alloc _) (fun hHeld => ?_)
        clear hK K
        exact norm_ (by simp only [putAll, Act.put, List.setIfInBounds_toArray, List.set_cons_zero, List.set_cons_succ]) (hC111 (wj.heap.size, bt, 0, A3, c3, A4, c4, none, 0, none, 0) _ ⟨hHeld, blk_newR _ _ rfl, ⟨blk_alloc HPL.out _, HPB.out⟩, RT.below HRT.out (below_alloc (Below.refl _ _) _)⟩)
      · skip
        go_simp
        refine hK.out _ _ (hHeld.alloc _) (fun hHeld => ?_)
        clear hK K
        exact norm_ (by simp only [putAll, Act.put, List.setIfInBounds_toArray, List.set_cons_zero, List.set_cons_succ]) (hC012 (0, bt, wj.heap.size, A3, c3, A4, c4, none, 0, none, 0) _ ⟨hHeld, ⟨blk_alloc HPL.out _, HPB.out⟩, RT.below HRT.out (below_alloc (Below.refl _ _) _), blk_newR _ _ rfl⟩)
    intro hC011
    refine join_ (σ := Nat × Nat × Nat × Option Addr × Nat × Option Addr × Nat × Option Addr × Nat × Option Addr × Nat) 8 #[true, true, true, true, true, false, false, false, false, false, false, false, false] (fun s_ => [(10, .slice (some ⟨s_.1, 0, none⟩) 2 2), (14, Value.agg #[.int .i64 7, .int .i64 0, .string ⟨#[]⟩, .slice s_.2.2.2.1 0 s_.2.2.2.2.1, .slice s_.2.2.2.2.2.1 2 s_.2.2.2.2.2.2.1])]) (fun s_ w' => S0 w w' ∧ w'.heap[s_.1]? = some (Obj.cells #[.string ⟨#[98]⟩, .string ⟨#[97]⟩] 9 (0, 0)) ∧ RT w' (Value.agg #[.int .i64 7, .int .i64 0, .string ⟨#[]⟩, .slice s_.2.2.2.1 0 s_.2.2.2.2.1, .slice s_.2.2.2.2.2.1 2 s_.2.2.2.2.2.2.1]) (funT tX tI)) ?_ ?_
    · skip
      rintro ⟨gl, bt, gr, A3, c3, A4, c4, E3, e3, E4, e4⟩ wj hj
      obtain ⟨hHeld, hgl, hrt⟩ := hj
      dsimp only at hgl hrt
      have HGL := Aside0.mk hgl
      have HRT := Aside0.mk hrt
      clear hgl hrt
      refine norm_ (a' := ?_) ?_ ?_
      rotate_left
      · simp only [putAll, Act.put, List.setIfInBounds_toArray, List.set_cons_zero, List.set_cons_succ]
        rfl
      refine two_ (i := 5) (j := 10) (Ni := some 15) (Nj := some 3) #[true, true, true, true, true, true, false, false, false, false, false, false, false] #[true, true, true, true, true, false, false, false, false, false, true, false, false] rfl rfl rfl rfl (by kernel_rfl) (by decide) (by decide) (fun K hK => ?_) (fun K hK => ?_)
      · skip
        go_simp
        refine hK.out _ _ (hHeld.alloc _) (fun hHeld => ?_)
        clear hK K
        exact norm_ (by simp only [putAll, Act.put, List.setIfInBounds_toArray, List.set_cons_zero, List.set_cons_succ]) (hC102 (gl, 0, wj.heap.size, A3, c3, A4, c4, none, 0, none, 0) _ ⟨hHeld, blk_alloc HGL.out _, RT.below HRT.out (below_alloc (Below.refl _ _) _), blk_newR _ _ rfl⟩)
      · skip
        have hbt := hHeld.2.2.2.2.2.2.2.2.2.2.2
        go_simp
        refine hK.out _ _ (hHeld.alloc _) (fun hHeld => ?_)
        clear hK K
        exact norm_ (by simp only [putAll, Act.put, List.setIfInBounds_toArray, List.set_cons_zero, List.set_cons_succ]) (hC111 (gl, wj.heap.size, 0, A3, c3, A4, c4, none, 0, none, 0) _ ⟨hHeld, blk_alloc HGL.out _, ⟨blk_newR _ _ rfl, Nat.le_of_lt (Nat.lt_of_succ_lt hbt)⟩, RT.below HRT.out (below_alloc (Below.refl _ _) _)⟩)
    intro hC101
    refine join_ (σ := Nat × Nat × Nat × Option Addr × Nat × Option Addr × Nat × Option Addr × Nat × Option Addr × Nat) 8 #[false, true, true, true, true, true, false, false, false, false, false, false, false] (fun s_ => [(14, Value.agg #[.int .i64 7, .int .i64 0, .string ⟨#[]⟩, .slice s_.2.2.2.1 0 s_.2.2.2.2.1, .slice s_.2.2.2.2.2.1 2 s_.2.2.2.2.2.2.1]), (15, .slice (some ⟨s_.2.2.1, 0, none⟩) 2 2)]) (fun s_ w' => S0 w w' ∧ RT w' (Value.agg #[.int .i64 7, .int .i64 0, .string ⟨#[]⟩, .slice s_.2.2.2.1 0 s_.2.2.2.2.1, .slice s_.2.2.2.2.2.1 2 s_.2.2.2.2.2.2.1]) (funT tX tI) ∧ w'.heap[s_.2.2.1]? = some (Obj.cells #[.int .i64 1, .int .i64 0, .string ⟨#[]⟩, .slice none 0 0, .slice none 0 0, .int .i64 7, .int .i64 0, .string ⟨#[]⟩, .slice s_.2.2.2.1 0 s_.2.2.2.2.1, .slice s_.2.2.2.2.2.1 2 s_.2.2.2.2.2.2.1] 26 (0, 0))) ?_ ?_
    · skip
      rintro ⟨gl, bt, gr, A3, c3, A4, c4, E3, e3, E4, e4⟩ wj hj
      obtain ⟨hHeld, hrt, hgr⟩ := hj
      dsimp only at hrt hgr
      have HRT := Aside0.mk hrt
      have HGR := Aside0.mk hgr
      clear hrt hgr
      refine norm_ (a' := ?_) ?_ ?_
      rotate_left
      · simp only [putAll, Act.put, List.setIfInBounds_toArray, List.set_cons_zero, List.set_cons_succ]
        rfl
      refine two_ (i := 0) (j := 10) (Ni := some 10) (Nj := some 3) #[true, true, true, true, true, true, false, false, false, false, false, false, false] #[false, true, true, true, true, true, false, false, false, false, true, false, false] rfl rfl rfl rfl (by kernel_rfl) (by decide) (by decide) (fun K hK => ?_) (fun K hK => ?_)
      · skip
        go_simp
        refine hK.out _ _ (hHeld.alloc _) (fun hHeld => ?_)
        clear hK K
        exact norm_ (by simp only [putAll, Act.put, List.setIfInBounds_toArray, List.set_cons_zero, List.set_cons_succ]) (hC102 (wj.heap.size, 0, gr, A3, c3, A4, c4, none, 0, none, 0) _ ⟨hHeld, blk_newR _ _ rfl, RT.below HRT.out (below_alloc (Below.refl _ _) _), blk_alloc HGR.out _⟩)
      · skip
        have hbt := hHeld.2.2.2.2.2.2.2.2.2.2.2
        go_simp
        refine hK.out _ _ (hHeld.alloc _) (fun hHeld => ?_)
        clear hK K
        exact norm_ (by simp only [putAll, Act.put, List.setIfInBounds_toArray, List.set_cons_zero, List.set_cons_succ]) (hC012 (0, wj.heap.size, gr, A3, c3, A4, c4, none, 0, none, 0) _ ⟨hHeld, ⟨blk_newR _ _ rfl, Nat.le_of_lt (Nat.lt_of_succ_lt hbt)⟩, RT.below HRT.out (below_alloc (Below.refl _ _) _), blk_alloc HGR.out _⟩)
    intro hC002
    refine join_ (σ := Nat × Nat × Nat × Option Addr × Nat × Option Addr × Nat × Option Addr × Nat × Option Addr × Nat) 9 #[false, true, true, true, false, false, false, false, false, false, true, false, false] (fun s_ => [(3, .pointer (some ⟨s_.2.1, 0, none⟩))]) (fun s_ w' => S0 w w' ∧ (Plain w' s_.2.1 ∧ w.heap.size ≤ s_.2.1)) ?_ ?_
    · skip
      rintro ⟨gl, bt, gr, A3, c3, A4, c4, E3, e3, E4, e4⟩ wj hj
      obtain ⟨hHeld, ⟨hpl, hpb⟩⟩ := hj
      dsimp only at hpl hpb
      have HPL := Aside0.mk hpl
      have HPB := Aside0.mk hpb
      clear hpl hpb
      refine norm_ (a' := ?_) ?_ ?_
      rotate_left
      · simp only [putAll, Act.put, List.setIfInBounds_toArray, List.set_cons_zero, List.set_cons_succ]
        rfl
      refine two_ (i := 0) (j := 4) (Ni := some 10) (Nj := some 14) #[true, true, true, true, false, false, false, false, false, false, true, false, false] #[false, true, true, true, true, false, false, false, false, false, true, false, false] rfl rfl rfl rfl (by kernel_rfl) (by decide) (by decide) (fun K hK => ?_) (fun K hK => ?_)
      · skip
        go_simp
        refine hK.out _ _ (hHeld.alloc _) (fun hHeld => ?_)
        clear hK K
        exact norm_ (by simp only [putAll, Act.put, List.setIfInBounds_toArray, List.set_cons_zero, List.set_cons_succ]) (hC110 (wj.heap.size, bt, 0, none, 0, none, 0, none, 0, none, 0) _ ⟨hHeld, blk_newR _ _ rfl, ⟨blk_alloc HPL.out _, HPB.out⟩⟩)
      · skip
        refine goes_ Try.func44 (by kernel_rfl) rfl #[.agg #[.int .i64 6, .int .i64 0, .string ⟨#[88]⟩, .slice none 0 0, .slice none 0 0], .agg #[.int .i64 1, .int .i64 0, .string ⟨#[]⟩, .slice none 0 0, .slice none 0 0]] (by rfl) rfl rfl (by (try simp only [List.map_toArray, List.map_cons, List.map_nil]); first | done | rfl) ?_
        with_reducible refine (fun_awake _).mono ?_
        rintro e wf ⟨⟨A3, c3, A4, c4, rfl, hvf⟩, hbf⟩
        refine ⟨_, rfl, ?_⟩
        refine hK.out _ _ (hHeld.call hbf) (fun hHeld => ?_)
        clear hK K
        refine norm_ (a' := ?_) ?_ ?_
        rotate_left
        · show Act.put _ (some 14) _ = _
          simp only [putAll, Act.put, List.setIfInBounds_toArray, List.set_cons_zero, List.set_cons_succ]
          rfl
        exact norm_ (by simp only [putAll, Act.put, List.setIfInBounds_toArray, List.set_cons_zero, List.set_cons_succ]) (hC011 (0, bt, 0, A3, c3, A4, c4, none, 0, none, 0) _ ⟨hHeld, ⟨blk_below HPL.out hbf, HPB.out⟩, hvf.out⟩)
    intro hC010
    refine join_ (σ := Nat × Nat × Nat × Option Addr × Nat × Option Addr × Nat × Option Addr × Nat × Option Addr × Nat) 9 #[true, true, true, true, false, false, false, false, false, false, false, false, false] (fun s_ => [(10, .slice (some ⟨s_.1, 0, none⟩) 2 2)]) (fun s_ w' => S0 w w' ∧ w'.heap[s_.1]? = some (Obj.cells #[.string ⟨#[98]⟩, .string ⟨#[97]⟩] 9 (0, 0))) ?_ ?_
    · skip
      rintro ⟨gl, bt, gr, A3, c3, A4, c4, E3, e3, E4, e4⟩ wj hj
      obtain ⟨hHeld, hgl⟩ := hj
      dsimp only at hgl
      have HGL := Aside0.mk hgl
      clear hgl
      refine norm_ (a' := ?_) ?_ ?_
      rotate_left
      · simp only [putAll, Act.put, List.setIfInBounds_toArray, List.set_cons_zero, List.set_cons_succ]
        rfl
      refine two_ (i := 4) (j := 10) (Ni := some 14) (Nj := some 3) #[true, true, true, true, true, false, false, false, false, false, false, false, false] #[true, true, true, true, false, false, false, false, false, false, true, false, false] rfl rfl rfl rfl (by kernel_rfl) (by decide) (by decide) (fun K hK => ?_) (fun K hK => ?_)
      · skip
        refine goes_ Try.func44 (by kernel_rfl) rfl #[.agg #[.int .i64 6, .int .i64 0, .string ⟨#[88]⟩, .slice none 0 0, .slice none 0 0], .agg #[.int .i64 1, .int .i64 0, .string ⟨#[]⟩, .slice none 0 0, .slice none 0 0]] (by rfl) rfl rfl (by (try simp only [List.map_toArray, List.map_cons, List.map_nil]); first | done | rfl) ?_
        with_reducible refine (fun_awake _).mono ?_
        rintro e wf ⟨⟨A3, c3, A4, c4, rfl, hvf⟩, hbf⟩
        refine ⟨_, rfl, ?_⟩
        refine hK.out _ _ (hHeld.call hbf) (fun hHeld => ?_)
        clear hK K
        refine norm_ (a' := ?_) ?_ ?_
        rotate_left
        · show Act.put _ (some 14) _ = _
          simp only [putAll, Act.put, List.setIfInBounds_toArray, List.set_cons_zero, List.set_cons_succ]
          rfl
        exact norm_ (by simp only [putAll, Act.put, List.setIfInBounds_toArray, List.set_cons_zero, List.set_cons_succ]) (hC101 (gl, 0, 0, A3, c3, A4, c4, none, 0, none, 0) _ ⟨hHeld, blk_below HGL.out hbf, hvf.out⟩)
      · skip
        have hbt := hHeld.2.2.2.2.2.2.2.2.2.2.2
        go_simp
        refine hK.out _ _ (hHeld.alloc _) (fun hHeld => ?_)
        clear hK K
        exact norm_ (by simp only [putAll, Act.put, List.setIfInBounds_toArray, List.set_cons_zero, List.set_cons_succ]) (hC110 (gl, wj.heap.size, 0, none, 0, none, 0, none, 0, none, 0) _ ⟨hHeld, blk_alloc HGL.out _, ⟨blk_newR _ _ rfl, Nat.le_of_lt (Nat.lt_of_succ_lt hbt)⟩⟩)
    intro hC100
    refine join_ (σ := Nat × Nat × Nat × Option Addr × Nat × Option Addr × Nat × Option Addr × Nat × Option Addr × Nat) 9 #[false, true, true, true, true, false, false, false, false, false, false, false, false] (fun s_ => [(14, Value.agg #[.int .i64 7, .int .i64 0, .string ⟨#[]⟩, .slice s_.2.2.2.1 0 s_.2.2.2.2.1, .slice s_.2.2.2.2.2.1 2 s_.2.2.2.2.2.2.1])]) (fun s_ w' => S0 w w' ∧ RT w' (Value.agg #[.int .i64 7, .int .i64 0, .string ⟨#[]⟩, .slice s_.2.2.2.1 0 s_.2.2.2.2.1, .slice s_.2.2.2.2.2.1 2 s_.2.2.2.2.2.2.1]) (funT tX tI)) ?_ ?_
    · skip
      rintro ⟨gl, bt, gr, A3, c3, A4, c4, E3, e3, E4, e4⟩ wj hj
      obtain ⟨hHeld, hrt⟩ := hj
      dsimp only at hrt
      have HRT := Aside0.mk hrt
      clear hrt
      refine norm_ (a' := ?_) ?_ ?_
      rotate_left
      · simp only [putAll, Act.put, List.setIfInBounds_toArray, List.set_cons_zero, List.set_cons_succ]
        rfl
      refine three_ (i := 0) (j := 5) (k := 10) (Ni := some 10) (Nj := some 15) (Nk := some 3) #[true, true, true, true, true, false, false, false, false, false, false, false, false] #[false, true, true, true, true, true, false, false, false, false, false, false, false] #[false, true, true, true, true, false, false, false, false, false, true, false, false] rfl rfl rfl rfl rfl rfl (by kernel_rfl) (by decide) (by decide) (by decide) (fun K hK => ?_) (fun K hK => ?_) (fun K hK => ?_)
      · skip
        go_simp
        refine hK.out _ _ (hHeld.alloc _) (fun hHeld => ?_)
        clear hK K
        exact norm_ (by simp only [putAll, Act.put, List.setIfInBounds_toArray, List.set_cons_zero, List.set_cons_succ]) (hC101 (wj.heap.size, 0, 0, A3, c3, A4, c4, none, 0, none, 0) _ ⟨hHeld, blk_newR _ _ rfl, RT.below HRT.out (below_alloc (Below.refl _ _) _)⟩)
      · skip
        go_simp
        refine hK.out _ _ (hHeld.alloc _) (fun hHeld => ?_)
        clear hK K
        exact norm_ (by simp only [putAll, Act.put, List.setIfInBounds_toArray, List.set_cons_zero, List.set_cons_succ]) (hC002 (0, 0, wj.heap.size, A3, c3, A4, c4, none, 0, none, 0) _ ⟨hHeld, RT.below HRT.out (below_alloc (Below.refl _ _) _), blk_newR _ _ rfl⟩)
      · skip
        have hbt := hHeld.2.2.2.2.2.2.2.2.2.2.2
        go_simp
        refine hK.out _ _ (hHeld.alloc _) (fun hHeld => ?_)
        clear hK K
        exact norm_ (by simp only [putAll, Act.put, List.setIfInBounds_toArray, List.set_cons_zero, List.set_cons_succ]) (hC011 (0, wj.heap.size, 0, A3, c3, A4, c4, none, 0, none, 0) _ ⟨hHeld, ⟨blk_newR _ _ rfl, Nat.le_of_lt (Nat.lt_of_succ_lt hbt)⟩, RT.below HRT.out (below_alloc (Below.refl _ _) _)⟩)
    intro hC001
    refine three_ (i := 0) (j := 4) (k := 10) (Ni := some 10) (Nj := some 14) (Nk := some 3) #[true, true, true, true, false, false, false, false, false, false, false, false, false] #[false, true, true, true, true, false, false, false, false, false, false, false, false] #[false, true, true, true, false, false, false, false, false, false, true, false, false] rfl rfl rfl rfl rfl rfl (by kernel_rfl) (by decide) (by decide) (by decide) (fun K hK => ?_) (fun K hK => ?_) (fun K hK => ?_)
    · skip
      go_simp
      refine hK.out _ _ (hHeld.alloc _) (fun hHeld => ?_)
      clear hK K
      exact norm_ (by simp only [putAll, Act.put, List.setIfInBounds_toArray, List.set_cons_zero, List.set_cons_succ]) (hC100 (wd.heap.size, 0, 0, none, 0, none, 0, none, 0, none, 0) _ ⟨hHeld, blk_newR _ _ rfl⟩)
    · skip
      refine goes_ Try.func44 (by kernel_rfl) rfl #[.agg #[.int .i64 6, .int .i64 0, .string ⟨#[88]⟩, .slice none 0 0, .slice none 0 0], .agg #[.int .i64 1, .int .i64 0, .string ⟨#[]⟩, .slice none 0 0, .slice none 0 0]] (by rfl) rfl rfl (by (try simp only [List.map_toArray, List.map_cons, List.map_nil]); first | done | rfl) ?_
      with_reducible refine (fun_awake _).mono ?_
      rintro e wf ⟨⟨A3, c3, A4, c4, rfl, hvf⟩, hbf⟩
      refine ⟨_, rfl, ?_⟩
      refine hK.out _ _ (hHeld.call hbf) (fun hHeld => ?_)
      clear hK K
      refine norm_ (a' := ?_) ?_ ?_
      rotate_left
      · show Act.put _ (some 14) _ = _
        simp only [putAll, Act.put, List.setIfInBounds_toArray, List.set_cons_zero, List.set_cons_succ]
        rfl
      exact norm_ (by simp only [putAll, Act.put, List.setIfInBounds_toArray, List.set_cons_zero, List.set_cons_succ]) (hC001 (0, 0, 0, A3, c3, A4, c4, none, 0, none, 0) _ ⟨hHeld, hvf.out⟩)
    · skip
      have hbt := hHeld.2.2.2.2.2.2.2.2.2.2.2
      go_simp
      refine hK.out _ _ (hHeld.alloc _) (fun hHeld => ?_)
      clear hK K
      exact norm_ (by simp only [putAll, Act.put, List.setIfInBounds_toArray, List.set_cons_zero, List.set_cons_succ]) (hC010 (0, wd.heap.size, 0, none, 0, none, 0, none, 0, none, 0) _ ⟨hHeld, ⟨blk_newR _ _ rfl, Nat.le_of_lt (Nat.lt_of_succ_lt hbt)⟩⟩)
  case rest =>
    have hrel : ∃ (bt : Nat) (A3 : Option Addr) (c3 : Nat) (A4 : Option Addr) (c4 : Nat), u3 = .pointer (some ⟨bt, 0, none⟩) ∧ u4 = .bool true ∧ Aside0 (wc.heap[bt]? = some (.cells #[.int .i64 8, .int .i64 0, .string ⟨#[]⟩, .slice A3 2 c3, .slice A4 2 c4] 26 (0, 0))) ∧ Aside0 (RT wc (.agg #[.int .i64 8, .int .i64 0, .string ⟨#[]⟩, .slice A3 2 c3, .slice A4 2 c4]) tA) ∧ Aside0 (Below w.heap.size w wc) := by assumption
    obtain ⟨bt, A3, c3, A4, c4, rfl, rfl, HT, HRT, HB⟩ := hrel
    have HP := Aside0.mk (fun (W : World) (hb : Below wc.heap.size wc W) => parts_of (HRT.out.below hb))
    have HWc := Aside0.mk (Below.refl wc.heap.size wc)
    obtain ⟨t0c, t1c, t2c, t3c, t4c⟩ := tcells HT.out (Below.refl _ _)
    go_wp2_with (first | (go_at_call 42; refine ((HP.out _ HWc.out).fld).mono ?_; rintro e w1 ⟨⟨B3, d3, B4, d4, rfl⟩, hb1⟩; have HW1 := Aside0.mk (HWc.out.trans (hb1.mono HWc.out.size)); obtain ⟨t01, t11, t21, t31, t41⟩ := tcells HT.out HW1.out; have hbz : bt < w1.heap.size := (World.block_lt_of_cell? w1 _ t01); have HW1a := Aside0.mk (HW1.out.alloc HW1.out.size (.cells #[.int .i64 1, .int .i64 0, .string ⟨#[]⟩, .slice B3 0 d3, .slice B4 0 d4] 26)); clear hb1) | (go_at_call 26; refine ((HP.out _ HW1a.out).rgt).mono ?_; rintro e w2 ⟨rfl, hb2⟩; have HW2 := Aside0.mk (HW1a.out.trans (hb2.mono HW1a.out.size)); obtain ⟨t02, t12, t22, t32, t42⟩ := tcells HT.out HW2.out; have HF2 := Aside0.mk (blk_below (blk_new w1 (.cells #[.int .i64 1, .int .i64 0, .string ⟨#[]⟩, .slice B3 0 d3, .slice B4 0 d4] 26)) hb2); have f2 := blk_cell HF2.out 0; simp at f2; clear hb2) | (go_at_call 27; refine ((HP.out _ HW2.out).nds).mono ?_; rintro e w3 ⟨rfl, hb3⟩; have HW3 := Aside0.mk (HW2.out.trans (hb3.mono HW2.out.size)); obtain ⟨t03, t13, t23, t33, t43⟩ := tcells HT.out HW3.out; have HF3 := Aside0.mk (blk_below HF2.out hb3); have f3 := blk_cell HF3.out 0; simp at f3; clear hb3) | (go_at_call 29; refine ((HP.out _ HW3.out).dep).mono ?_; rintro e w4 ⟨rfl, hb4⟩; have HW4 := Aside0.mk (HW3.out.trans (hb4.mono HW3.out.size)); obtain ⟨t04, t14, t24, t34, t44⟩ := tcells HT.out HW4.out; have HF4 := Aside0.mk (blk_below HF3.out hb4); have f4 := blk_cell HF4.out 0; simp at f4; clear hb4) | (go_at_call 33; refine ((HP.out _ HW4.out).vrs).mono ?_; rintro e w5 ⟨⟨AV, cv, rfl⟩, hb5⟩; have HW5 := Aside0.mk (HW4.out.trans (hb5.mono HW4.out.size)); obtain ⟨t05, t15, t25, t35, t45⟩ := tcells HT.out HW5.out; have HF5 := Aside0.mk (blk_below HF4.out hb5); have f5 := blk_cell HF5.out 0; simp at f5; clear hb5) | (go_at_call 35; refine ((HP.out _ HW5.out).fit).mono ?_; rintro e w6 ⟨rfl, hb6⟩; have HW6 := Aside0.mk (HW5.out.trans (hb6.mono HW5.out.size)); obtain ⟨t06, t16, t26, t36, t46⟩ := tcells HT.out HW6.out; have HF6 := Aside0.mk (blk_below HF5.out hb6); have f6 := blk_cell HF6.out 0; simp at f6; clear hb6) | (go_at_call 37; refine ((HP.out _ HW6.out).sme).mono ?_; rintro e w7 ⟨rfl, hb7⟩; have HW7 := Aside0.mk (HW6.out.trans (hb7.mono HW6.out.size)); obtain ⟨t07, t17, t27, t37, t47⟩ := tcells HT.out HW7.out; have HF7 := Aside0.mk (blk_below HF6.out hb7); have f7 := blk_cell HF7.out 0; simp at f7; clear hb7) | (go_at_call 31; refine ((HP.out _ HW7.out).has).mono ?_; rintro e w8 ⟨rfl, hb8⟩; have HW8 := Aside0.mk (HW7.out.trans (hb8.mono HW7.out.size)); obtain ⟨t08, t18, t28, t38, t48⟩ := tcells HT.out HW8.out; have HF8 := Aside0.mk (blk_below HF7.out hb8); have f8 := blk_cell HF8.out 0; simp at f8; clear hb8))
    go_ret
    exact ⟨rfl, HB.out.trans (HW8.out.mono HB.out.size)⟩
end Go.Proofs.Ytkeeknlfommieaa.PF
