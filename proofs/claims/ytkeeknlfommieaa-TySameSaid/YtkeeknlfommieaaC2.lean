/- ty.Depth. -/
import Derived.Test.YtkeeknlfommieaaB8
namespace Go.Proofs.Ytkeeknlfommieaa.PF
open Go.RowKit Go.Shelf Go.Proofs.YtkeeknlfommieaaW.PrintWords Go.Proofs.YtkeeknlfommieaaW.PrintLast Go.Proofs.YtkeeknlfommieaaW.PrintMore

mutual
def depT : S26 → Nat
  | ⟨_, _, _, _, ar⟩ => depL ar + 1
def depL : List S26 → Nat
  | [] => 0
  | x :: l => Nat.max (depT x) (depL l)
end
mutual
def sizT : S26 → Nat
  | ⟨_, _, _, _, ar⟩ => sizL ar + 1
def sizL : List S26 → Nat
  | [] => 0
  | x :: l => sizT x + sizL l
end
theorem depL_app (l m : List S26) : depL (l ++ m) = Nat.max (depL l) (depL m) := by
  induction l with
  | nil => simp [depL]
  | cons x l ih => rw [List.cons_append, depL, depL, ih]; exact (Nat.max_assoc _ _ _).symm
theorem depL_take (l : List S26) (k : Nat) (h : k < l.length) : depL (l.take (k + 1)) = Nat.max (depL (l.take k)) (depT l[k]) := by
  rw [List.take_succ_eq_append_getElem h, depL_app]
  simp [depL]
theorem depL_mem (l : List S26) (x : S26) (h : x ∈ l) : depT x ≤ depL l := by
  induction l with
  | nil => cases h
  | cons y l ih =>
    rw [depL]
    rcases List.mem_cons.1 h with rfl | h
    · exact Nat.le_max_left _ _
    · exact Nat.le_trans (ih h) (Nat.le_max_right _ _)
set_option maxRecDepth 100000 in
set_option maxHeartbeats 2000000 in
theorem depth_calls (t : S26) : ∀ (_ : depT t ≤ 4611686018427387904) (w : World) (A3 : Option Addr) (c3 : Nat) (A4 : Option Addr) (c4 : Nat) (_ : t.f3.length ≤ c3) (_ : Kd.string.C w A3 t.f3.length t.f3) (_ : t.f4.length ≤ c4) (_ : k26.C w A4 t.f4.length t.f4),
    Calls Try.prog 29 #[.agg #[.int .i64 t.f0, .int .i64 t.f1, .string t.f2, .slice A3 t.f3.length c3, .slice A4 t.f4.length c4]] w fun e w' => e = .returned (.int .i64 (depT t)) ∧ Below w.heap.size w w' := by
  induction t using S26.ind with
  | h k0 n nm ls ar ih =>
  intro hbig w A3 c3 A4 c4 l3 g3 l4 g4
  dsimp only at l3 g3 l4 g4 hbig ⊢
  have hE : depT ⟨k0, n, nm, ls, ar⟩ = depL ar + 1 := by rw [depT]
  rw [hE] at hbig ⊢
  have HG4 := Aside0.mk g4
  have HIH := Aside0.mk ih
  have HBIG := Aside0.mk hbig
  have hl4 := g4.2.1
  clear ih l3 g3 l4 g4 hbig hE
  go_enter Try.func29, Try.ntmps29
  go_wp2
  go_loopg [3, 9] ar.length (fun gk v i wr => ∃ (k : Nat), v = .int .i64 (depL (ar.take k) : Nat) ∧ i = .int .i64 k ∧ Aside0 (gk + k = ar.length) ∧ Aside0 (Below w.heap.size w wr))
  case atStart => exact ⟨0, by simp [depL], rfl, ⟨by omega⟩, ⟨below_alloc (Below.refl _ _) _⟩⟩
  case round =>
    obtain ⟨k, rfl, rfl, HK, HB⟩ := hrel
    by_cases hlt : k < ar.length
    · have hltZ : ((k : Int) < (ar.length : Int)) := by omega
      obtain ⟨ad, B3, d3, B4, d4, e, h0, h1, h2, h3, h4, l3, g3, l4, g4⟩ := el26 (Kd.C_below HG4.out HB.out) k hlt
      cases e
      have hdl : depT ar[k] ≤ depL ar := depL_mem _ _ (List.getElem_mem hlt)
      have ha : Below wr.heap.size wr (wr.alloc (.cells #[.int .i64 ar[k].f0, .int .i64 ar[k].f1, .string ar[k].f2, .slice B3 ar[k].f3.length d3, .slice B4 ar[k].f4.length d4] 26)) := below_alloc (Below.refl _ _) _
      have HC := Aside0.mk (HIH.out ar[k] (List.getElem_mem hlt) (by have := HBIG.out; omega) _ B3 d3 B4 d4 l3 (Kd.C_below g3 ha) l4 (Kd.C_below g4 ha))
      have HT := Aside0.mk (depL_take ar k hlt)
      have HLT := Aside0.mk hlt
      generalize ar[k] = x at *
      clear l3 g3 l4 g4 hlt ha hdl
      go_wp2_with (go_at_call 29; refine HC.out.mono ?_; rintro e w1 ⟨rfl, hb1⟩)
      all_goals
        go_roundg (gk - 1)
        case measure => have := HK.out; have := HLT.out; omega
        case rel => exact ⟨k + 1, by rw [HT.out]; simp only [Nat.max_def]; split <;> first | rfl | (congr 1; omega), by go_num, ⟨by have := HK.out; have := HLT.out; omega⟩, ⟨HB.out.trans (((below_alloc (Below.refl _ _) _).trans (hb1.mono (by simp))).mono HB.out.size)⟩⟩
    · have hltz : ¬ (k : Int) < (ar.length : Int) := by omega
      go_wp2
      go_ret
      exact ⟨ret_int (by rw [show k = ar.length by have := HK.out; omega, List.take_length]; have := HBIG.out; unfold wrap64; omega), HB.out⟩
end Go.Proofs.Ytkeeknlfommieaa.PF
