/- slices.SortStableFunc at ty.field: fewer than 20 elements (one block), and none. -/
import Derived.Test.YtkeeknlfommieaaD1
namespace Go.Proofs.Ytkeeknlfommieaa.PF
open Go.RowKit Go.Shelf Go.Sort Go.Proofs.YtkeeknlfommieaaW.PrintWords Go.Proofs.YtkeeknlfommieaaW.PrintLast Go.Proofs.YtkeeknlfommieaaW.PrintMore

def Sorted (g : Nat) (d : Array FE) (W : World) (e : Ending) (w' : World) : Prop :=
  e = .returned (.tuple #[]) ∧ ∃ d' n os, PermIn 0 d.size d d' ∧ SortedIn (ltOf FE.cf) 0 d.size d' ∧ w' = sortWorldK FE.enc 6 W g 0 n d' os
def SortOK (hi : Nat) : Prop := ∀ (g cap : Nat) (d : Array FE) (W : World), HoldsK FE.enc 6 W g 0 d → g < W.heap.size → 0 < d.size → d.size ≤ hi →
  Calls Try.prog 74 #[.slice (some ⟨g, 0, none⟩) d.size cap, .func (.func 75) #[] #[]] W (Sorted g d W)

theorem cmpL_lt : ∀ (a b : List UInt8), Lib.compareBytes a b < 0 ↔ a < b := by
  intro a
  induction a with
  | nil =>
    intro b
    cases b with
    | nil => simp [Lib.compareBytes]
    | cons y b => simp [Lib.compareBytes]
  | cons x a ih =>
    intro b
    cases b with
    | nil => simp [Lib.compareBytes]
    | cons y b =>
      rw [Lib.compareBytes, List.cons_lt_cons_iff]
      by_cases h1 : x < y
      · simp [h1]
      · by_cases h2 : y < x
        · have h3 : x ≠ y := by rintro rfl; exact h1 h2
          simp [h1, h2, h3]
        · have h3 : x = y := UInt8.le_antisymm (UInt8.not_lt.1 h2) (UInt8.not_lt.1 h1)
          simp [h1, h2, h3, ih]
theorem ltcf (a b : FE) : ltOf FE.cf a b = decide (a.l.data.toList < b.l.data.toList) := by
  unfold ltOf FE.cf
  rw [Bool.eq_iff_iff, decide_eq_true_iff, decide_eq_true_iff]
  exact cmpL_lt _ _
theorem swo : SWO (ltOf FE.cf) := by
  constructor
  · intro x; rw [ltcf]; simp [List.lt_irrefl]
  · intro x y z; rw [ltcf, ltcf, ltcf]; simp only [decide_eq_true_iff]; exact List.lt_trans
  · intro x y z; rw [ltcf, ltcf, ltcf]; simp only [decide_eq_false_iff_not, List.not_lt]; exact fun h1 h2 => List.le_trans h2 h1

set_option maxRecDepth 100000 in
set_option maxHeartbeats 2000000 in
theorem stable_small : ∀ (g cap : Nat) (d : Array FE) (W : World), HoldsK FE.enc 6 W g 0 d → g < W.heap.size → d.size < 20 →
    Calls Try.prog 104 #[.slice (some ⟨g, 0, none⟩) d.size cap, .int .i64 d.size, .func (.func 75) #[] #[]] W (Sorted g d W) := by
  intro g cap d W hH hg hd
  have hc := insertion_calls g 0 cap 0 d.size d W hH hg (Nat.zero_le _) (Nat.le_refl _) (by omega)
  have hs := insertionSort_holds (lt := ltOf FE.cf) swo d 0 d.size (Nat.zero_le _) (Nat.le_refl _)
  have HC := Aside0.mk hc
  have HS := Aside0.mk hs
  clear hc hs hH
  go_enter Try.func104, Try.ntmps104
  go_wp2
  refine wp_loop_rounds 1 ?_
  rw [rounds_succ]
  go_wp2_with (go_at_call 127; refine HC.out.mono ?_; rintro e w1 ⟨rfl, n, os, rfl⟩)
  refine wp_loop_rounds 1 ?_
  rw [rounds_succ]
  go_wp2
  go_end0
  exact ⟨rfl, _, n, os, HS.out.1, HS.out.2, rfl⟩
theorem sort_of {n : Nat} (h : ∀ (g cap : Nat) (d : Array FE) (W : World), HoldsK FE.enc 6 W g 0 d → g < W.heap.size → 0 < d.size → d.size ≤ n →
    Calls Try.prog 104 #[.slice (some ⟨g, 0, none⟩) d.size cap, .int .i64 d.size, .func (.func 75) #[] #[]] W (Sorted g d W)) : SortOK n := by
  intro g cap d W hH hg h0 hd
  have HC := Aside0.mk (h g cap d W hH hg h0 hd)
  clear h hH hd h0 hg
  go_enter Try.func74, Try.ntmps74
  go_wp2_with (go_at_call 104; refine HC.out.mono ?_; rintro e w1 ⟨rfl, h2⟩)
  go_end0
  exact ⟨rfl, h2⟩
theorem sort_small : SortOK 19 := sort_of fun g cap d W hH hg _ hd => stable_small g cap d W hH hg (by omega)

theorem insertion_none (cap : Nat) (W : World) : Calls Try.prog 127 #[.slice none 0 cap, .int .i64 0, .int .i64 0, .func (.func 75) #[] #[]] W fun e w' => e = .returned (.tuple #[]) ∧ w' = W := by
  go_enter Try.func127, Try.ntmps127
  go_wp2
  refine wp_loop_rounds 1 ?_
  rw [rounds_succ]
  go_wp2
  go_end0
  exact ⟨rfl, rfl⟩
theorem stable_none (cap : Nat) (W : World) : Calls Try.prog 104 #[.slice none 0 cap, .int .i64 0, .func (.func 75) #[] #[]] W fun e w' => e = .returned (.tuple #[]) ∧ w' = W := by
  go_enter Try.func104, Try.ntmps104
  go_wp2
  refine wp_loop_rounds 1 ?_
  rw [rounds_succ]
  go_wp2_with (go_at_call 127; refine (insertion_none _ _).mono ?_; rintro e w1 ⟨rfl, rfl⟩)
  refine wp_loop_rounds 1 ?_
  rw [rounds_succ]
  go_wp2
  go_end0
  exact ⟨rfl, rfl⟩
theorem sort_none (cap : Nat) (W : World) : Calls Try.prog 74 #[.slice none 0 cap, .func (.func 75) #[] #[]] W fun e w' => e = .returned (.tuple #[]) ∧ w' = W := by
  go_enter Try.func74, Try.ntmps74
  go_wp2_with (go_at_call 104; refine (stable_none _ _).mono ?_; rintro e w1 ⟨rfl, rfl⟩)
  go_end0
  exact ⟨rfl, rfl⟩
end Go.Proofs.Ytkeeknlfommieaa.PF
