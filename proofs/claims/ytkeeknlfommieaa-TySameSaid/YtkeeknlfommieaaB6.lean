/- ty.Nodes, ty.Has, ty.Fits, ty.Vars: ranges over a type's nodes. -/
import Derived.Test.YtkeeknlfommieaaB5
namespace Go.Proofs.Ytkeeknlfommieaa.PF
open Go.RowKit Go.Shelf Go.Proofs.YtkeeknlfommieaaW.PrintWords Go.Proofs.YtkeeknlfommieaaW.PrintLast Go.Proofs.YtkeeknlfommieaaW.PrintMore
attribute [local go_sem] Oper.semAt_some

set_option maxRecDepth 100000 in
set_option maxHeartbeats 2000000 in
theorem nodes_calls (t : S26) (w : World) (A3 : Option Addr) (c3 : Nat) (A4 : Option Addr) (c4 : Nat) (g4 : k26.C w A4 t.f4.length t.f4) (hbig : (preT t).length ≤ 4611686018427387904) :
    Calls Try.prog 27 #[.agg #[.int .i64 t.f0, .int .i64 t.f1, .string t.f2, .slice A3 t.f3.length c3, .slice A4 t.f4.length c4]] w fun e w' => e = .returned (.int .i64 (preT t).length) ∧ Below w.heap.size w w' := by
  have HF := Aside0.mk (Kd.C_F k26_heap g4)
  have HBIG := Aside0.mk hbig
  clear g4 hbig
  refine (callsIn_wide (n := 3)).1 ?_
  refine callsIn_of_wp_marks Try.func27 rfl trivial ?_ rfl
  simp only [Try.ntmps27, List.size_toArray, List.length_cons, List.length_nil, Nat.reduceAdd, Nat.reduceSub, Array.replicate_succ, Array.replicate_zero, List.push_toArray, List.append_toArray, List.nil_append, List.cons_append]
  gi_wp2_with ((try first | refine ⟨trivial, fun h => (by cases h), ?_⟩ | refine ⟨trivial, ?_⟩); gi_at_call 68; refine (nodes_in _ _ ⟨_, _, _, _, _, rfl⟩ _).mono ?_; rintro e w' ⟨rfl, rfl⟩)
  have hbt := blk_new ((w.alloc (.cells #[.int .i64 t.f0, .int .i64 t.f1, .string t.f2, .slice A3 t.f3.length c3, .slice A4 t.f4.length c4] 26)).alloc (.cells #[.int .i64 0] 3)) (.cells #[.int .i64 t.f0, .int .i64 t.f1, .string t.f2, .slice A3 t.f3.length c3, .slice A4 t.f4.length c4] 26)
  have hbn := blk_alloc (blk_new (w.alloc (.cells #[.int .i64 t.f0, .int .i64 t.f1, .string t.f2, .slice A3 t.f3.length c3, .slice A4 t.f4.length c4] 26)) (.cells #[.int .i64 0] 3)) (.cells #[.int .i64 t.f0, .int .i64 t.f1, .string t.f2, .slice A3 t.f3.length c3, .slice A4 t.f4.length c4] 26)
  simp only [World.size_alloc] at hbt hbn
  have hb0 : Below w.heap.size w (((w.alloc (.cells #[.int .i64 t.f0, .int .i64 t.f1, .string t.f2, .slice A3 t.f3.length c3, .slice A4 t.f4.length c4] 26)).alloc (.cells #[.int .i64 0] 3)).alloc (.cells #[.int .i64 t.f0, .int .i64 t.f1, .string t.f2, .slice A3 t.f3.length c3, .slice A4 t.f4.length c4] 26)) :=
    below_alloc (below_alloc (below_alloc (Below.refl _ _) _) _) _
  obtain ⟨W0, hW0⟩ : ∃ W0, ((w.alloc (.cells #[.int .i64 t.f0, .int .i64 t.f1, .string t.f2, .slice A3 t.f3.length c3, .slice A4 t.f4.length c4] 26)).alloc (.cells #[.int .i64 0] 3)).alloc (.cells #[.int .i64 t.f0, .int .i64 t.f1, .string t.f2, .slice A3 t.f3.length c3, .slice A4 t.f4.length c4] 26) = W0 := ⟨_, rfl⟩
  have hsz : W0.heap.size = w.heap.size + 3 := by rw [← hW0]; simp
  rw [hW0] at hbt hbn hb0 ⊢
  refine wpIn_rangeFunc_ownH rfl (by omega) (gf := 100) (lb := #[.pointer (some ⟨w.heap.size + 1 + 1, 0, none⟩)]) rfl trivial (enters_of Try.func100 (by kernel_rfl) rfl)
    (nodes_stops _ t w.heap.size (w.heap.size + 1 + 1) A3 c3 A4 c4 W0 (by omega) hbt (Kd.F_step HF.out (fun b hb _ => hb0.block b hb))) (fun h k => h.trans k) (fun W l o o' hl h hc hw => kt_b (by omega) W l o o' hl h hc hw) (Below.refl _ _) (fun _ => rfl)
    (fun pre W => W.heap[w.heap.size + 1]? = some (.cells #[.int .i64 pre.length] 3 (0, 0)) ∧ Below w.heap.size w W) (fun _ _ _ => False) ?hI ?hIx ⟨hbn, hb0⟩
    (fun x a' _ => a' = { tmps := #[Value.agg #[.int .i64 t.f0, .int .i64 t.f1, .string t.f2, .slice A3 t.f3.length c3, .slice A4 t.f4.length c4], .pointer (some ⟨w.heap.size, 0, none⟩), .int .i64 0, .pointer (some ⟨w.heap.size + 1, 0, none⟩), Value.agg #[.int .i64 t.f0, .int .i64 t.f1, .string t.f2, .slice A3 t.f3.length c3, .slice A4 t.f4.length c4], .func (.func 100) #[] #[.pointer (some ⟨w.heap.size + 1 + 1, 0, none⟩)], x.enc, undef, undef, undef], defers := [] }) ?hAx ?assign ?body ?done ?stop
  case hI =>
    rintro s A B row ⟨h1, h2⟩ hg hr
    exact ⟨blk_grown h1 hg (fun e => by have := (hr _ e.symm).1; omega), h2.grown hg h2.size (fun r e => by have := (hr _ e).1; omega)⟩
  case hIx => exact fun _ _ _ _ _ hs _ _ => hs
  case hAx => exact fun _ _ _ _ _ _ hs _ _ => hs
  case assign =>
    intro l pre x W K hi hK
    gi_wp2
    refine hK _ _ (KeepsFrom.refl _ _) (KT.refl _ _) hi ?_
    simp
  case body =>
    rintro l pre x a' W hl _ ⟨h1, h2⟩ rfl hlt
    have hc := blk_cell h1 0
    have hf := blk_frozen h1 0
    simp at hc
    have HPL := Aside0.mk (show wrap64 ((pre.length : Int) + 1) = ((pre ++ [x]).length : Int) from by have := HBIG.out; unfold wrap64; simp; omega)
    gi_wp2
    refine ⟨(KeepsOthers.setCell _ _ _).from _, ⟨(Below.refl _ _).setCell (p := ⟨w.heap.size + 1, 0, none⟩) (by simp) _, fun b c hb => ?_⟩, ?_, h2.setCell (p := ⟨w.heap.size + 1, 0, none⟩) (by simp) _⟩
    · have hne : b ≠ w.heap.size + 1 := by rintro rfl; rw [h1] at hb; cases hb
      exact (Below.heap_setCell _ _ _ _ hne).trans hb
    · rw [HPL.out]
      exact blk_put h1 0 _ rfl
  case done =>
    rintro D ys W hD hy ⟨h1, h2⟩ hK
    have hc := blk_cell h1 0
    simp at hc
    gi_wp2
    refine ⟨by simp, .inl ⟨_, _, rfl, run_takeDeferred hK, ?_⟩⟩
    have hl : (ys.length : Int) = ((preT t).length : Int) := by rw [← hy, List.length_map]
    refine ⟨_, results_tmp rfl _ _ _, ?_⟩
    refine ⟨congrArg (fun z : Int => Ending.returned (.int .i64 z)) hl, ?_⟩
    exact h2.trans (belowK_b (w := w) (Nat.le_refl _) W D _ _ (by omega) hK rfl rfl)
  case stop =>
    rintro D c pre W _ _ h _
    exact h.elim

set_option maxRecDepth 100000 in
set_option maxHeartbeats 2000000 in
theorem fits_calls (t : S26) (w : World) (A3 : Option Addr) (c3 : Nat) (A4 : Option Addr) (c4 : Nat) (g4 : k26.C w A4 t.f4.length t.f4) :
    Calls Try.prog 35 #[Value.agg #[.int .i64 t.f0, .int .i64 t.f1, .string t.f2, .slice A3 t.f3.length c3, .slice A4 t.f4.length c4]] w fun e w' => e = .returned (.bool (decide ((preT t).length ≤ 300))) ∧ Below w.heap.size w w' := by
  have HF := Aside0.mk (Kd.C_F k26_heap g4)
  clear g4
  refine (callsIn_wide (n := 3)).1 ?_
  refine callsIn_of_wp_marks Try.func35 rfl trivial ?_ rfl
  simp only [Try.ntmps35, List.size_toArray, List.length_cons, List.length_nil, Nat.reduceAdd, Nat.reduceSub, Array.replicate_succ, Array.replicate_zero, List.push_toArray, List.append_toArray, List.nil_append, List.cons_append]
  gi_wp2_with ((try first | refine ⟨trivial, fun h => (by cases h), ?_⟩ | refine ⟨trivial, ?_⟩); gi_at_call 68; refine (nodes_in _ _ ⟨_, _, _, _, _, rfl⟩ _).mono ?_; rintro e w' ⟨rfl, rfl⟩)
  have hbt := blk_new ((((w.alloc (.cells #[.int .i64 t.f0, .int .i64 t.f1, .string t.f2, .slice A3 t.f3.length c3, .slice A4 t.f4.length c4] 26)).alloc (.cells #[.bool false] 4)).alloc (.cells #[.int .i64 0] 3))) (.cells #[.int .i64 t.f0, .int .i64 t.f1, .string t.f2, .slice A3 t.f3.length c3, .slice A4 t.f4.length c4] 26)
  have hbr := blk_alloc (blk_alloc (blk_new ((w.alloc (.cells #[.int .i64 t.f0, .int .i64 t.f1, .string t.f2, .slice A3 t.f3.length c3, .slice A4 t.f4.length c4] 26))) (.cells #[.bool false] 4)) (.cells #[.int .i64 0] 3)) (.cells #[.int .i64 t.f0, .int .i64 t.f1, .string t.f2, .slice A3 t.f3.length c3, .slice A4 t.f4.length c4] 26)
  have hbn := blk_alloc (blk_new (((w.alloc (.cells #[.int .i64 t.f0, .int .i64 t.f1, .string t.f2, .slice A3 t.f3.length c3, .slice A4 t.f4.length c4] 26)).alloc (.cells #[.bool false] 4))) (.cells #[.int .i64 0] 3)) (.cells #[.int .i64 t.f0, .int .i64 t.f1, .string t.f2, .slice A3 t.f3.length c3, .slice A4 t.f4.length c4] 26)
  simp only [World.size_alloc] at hbt hbr hbn
  have hb0 : Below w.heap.size w (((((w.alloc (.cells #[.int .i64 t.f0, .int .i64 t.f1, .string t.f2, .slice A3 t.f3.length c3, .slice A4 t.f4.length c4] 26)).alloc (.cells #[.bool false] 4)).alloc (.cells #[.int .i64 0] 3)).alloc (.cells #[.int .i64 t.f0, .int .i64 t.f1, .string t.f2, .slice A3 t.f3.length c3, .slice A4 t.f4.length c4] 26))) := below_alloc (below_alloc (below_alloc (below_alloc (Below.refl _ _) _) _) _) _
  obtain ⟨W0, hW0⟩ : ∃ W0, ((((w.alloc (.cells #[.int .i64 t.f0, .int .i64 t.f1, .string t.f2, .slice A3 t.f3.length c3, .slice A4 t.f4.length c4] 26)).alloc (.cells #[.bool false] 4)).alloc (.cells #[.int .i64 0] 3)).alloc (.cells #[.int .i64 t.f0, .int .i64 t.f1, .string t.f2, .slice A3 t.f3.length c3, .slice A4 t.f4.length c4] 26)) = W0 := ⟨_, rfl⟩
  have hsz : W0.heap.size = w.heap.size + 4 := by rw [← hW0]; simp
  rw [hW0] at hbt hbr hbn hb0 ⊢
  refine wpIn_rangeFunc_ownH rfl (by omega) (gf := 100) (lb := #[.pointer (some ⟨w.heap.size + 1 + 1 + 1, 0, none⟩)]) rfl trivial (enters_of Try.func100 (by kernel_rfl) rfl)
    (nodes_stops _ t w.heap.size (w.heap.size + 1 + 1 + 1) A3 c3 A4 c4 W0 (by omega) hbt (Kd.F_step HF.out (fun b hb _ => hb0.block b hb))) (fun h k => h.trans k) (fun W l o o' hl h hc hw => kt_b (by omega) W l o o' hl h hc hw) (Below.refl _ _) (fun _ => rfl)
    (fun pre W => W.heap[w.heap.size + 1 + 1]? = some (.cells #[.int .i64 pre.length] 3 (0, 0)) ∧ W.heap[w.heap.size + 1]? = some (.cells #[.bool false] 4 (0, 0)) ∧ pre.length ≤ 300 ∧ Below w.heap.size w W)
    (fun c pre W => c = .ret ∧ W.heap[w.heap.size + 1]? = some (.cells #[.bool false] 4 (0, 0)) ∧ 300 < pre.length ∧ Below w.heap.size w W) ?hI ?hIx ⟨hbn, hbr, Nat.zero_le _, hb0⟩
    (fun x a' _ => a' = { tmps := #[Value.agg #[.int .i64 t.f0, .int .i64 t.f1, .string t.f2, .slice A3 t.f3.length c3, .slice A4 t.f4.length c4], .pointer (some ⟨w.heap.size, 0, none⟩), .pointer (some ⟨w.heap.size + 1, 0, none⟩), .pointer (some ⟨w.heap.size + 1 + 1, 0, none⟩), Value.agg #[.int .i64 t.f0, .int .i64 t.f1, .string t.f2, .slice A3 t.f3.length c3, .slice A4 t.f4.length c4], .func (.func 100) #[] #[.pointer (some ⟨w.heap.size + 1 + 1 + 1, 0, none⟩)], x.enc, undef, undef, undef, undef], defers := [] }) ?hAx ?assign ?body ?done ?stop
  case hI =>
    rintro s A B row ⟨h1, h2, h3, h4⟩ hg hr
    exact ⟨blk_grown h1 hg (fun e => by have := (hr _ e.symm).1; omega), blk_grown h2 hg (fun e => by have := (hr _ e.symm).1; omega), h3, h4.grown hg h4.size (fun r e => by have := (hr _ e).1; omega)⟩
  case hIx =>
    rintro c s A B row ⟨h1, h2, h3, h4⟩ hg hr
    exact ⟨h1, blk_grown h2 hg (fun e => by have := (hr _ e.symm).1; omega), h3, h4.grown hg h4.size (fun r e => by have := (hr _ e).1; omega)⟩
  case hAx => exact fun _ _ _ _ _ _ hs _ _ => hs
  case assign =>
    intro l pre x W K hi hK
    gi_wp2
    refine hK _ _ (KeepsFrom.refl _ _) (KT.refl _ _) hi ?_
    simp
  case body =>
    rintro l pre x a' W hl _ ⟨h1, h2, h3, h4⟩ rfl hlt
    have hc := blk_cell h1 0
    have hf := blk_frozen h1 0
    have hc2 := blk_cell h2 0
    have hf2 := blk_frozen h2 0
    simp at hc hc2
    have HPL := Aside0.mk (show ((pre.length : Int) + 1) = ((pre ++ [x]).length : Int) from by simp)
    have hp0 : (0 : Int) ≤ (pre.length : Int) := by omega
    have hp1 : (pre.length : Int) ≤ 300 := by omega
    have HB2 := Aside0.mk (show (W.setCell ⟨w.heap.size + 1 + 1, 0, none⟩ (.int .i64 ((pre.length : Int) + 1))).heap[w.heap.size + 1 + 1]? = some (.cells #[.int .i64 ((pre.length : Int) + 1)] 3 (0, 0)) from blk_put h1 0 _ rfl)
    have HB1 := Aside0.mk (show (W.setCell ⟨w.heap.size + 1 + 1, 0, none⟩ (.int .i64 ((pre.length : Int) + 1))).heap[w.heap.size + 1]? = some (.cells #[.bool false] 4 (0, 0)) from blk_far h2 (by simp) _)
    have hcn := blk_cell HB2.out 0
    have hcr := blk_cell HB1.out 0
    have hfr := blk_frozen HB1.out 0
    simp at hcn hcr
    have HH := Aside0.mk (show KT w.heap.size W (W.setCell ⟨w.heap.size + 1 + 1, 0, none⟩ (.int .i64 ((pre.length : Int) + 1))) from ⟨(Below.refl _ _).setCell (p := ⟨w.heap.size + 1 + 1, 0, none⟩) (by simp; omega) _, fun b c hb => by
      have hne : b ≠ w.heap.size + 1 + 1 := by rintro rfl; rw [h1] at hb; cases hb
      exact (Below.heap_setCell _ _ _ _ hne).trans hb⟩)
    have H4 := Aside0.mk h4
    have HL := Aside0.mk h3
    clear h1 h2 h3 h4 hc2 hf2
    by_cases hgt : 300 < (pre.length : Int) + 1
    · gi_wp2
      refine ⟨((KeepsOthers.setCell _ _ _).trans (KeepsOthers.setCell _ _ _)).from _, rfl, ?_, ?_, ?_⟩
      · exact blk_put HB1.out 0 _ rfl
      · simp; omega
      · exact (H4.out.trans HH.out.low).setCell (p := ⟨w.heap.size + 1, 0, none⟩) (by simp) _
    · gi_wp2
      refine ⟨(KeepsOthers.setCell _ _ _).from _, HH.out, ?_, HB1.out, ?_, H4.out.trans HH.out.low⟩
      · rw [← HPL.out]; exact HB2.out
      · simp; omega
  case done =>
    rintro D ys W hD hy ⟨h1, h2, h3, h4⟩ hK
    have hcr := blk_cell h2 0
    have hfr := blk_frozen h2 0
    simp at hcr
    have HY := Aside0.mk (show decide ((preT t).length ≤ 300) = true from by rw [← hy, List.length_map]; exact decide_eq_true h3)
    have H2 := Aside0.mk h2
    clear h1 h2 h3 hy
    gi_wp2
    have hK' := (KeepsOthers.setCell W ⟨w.heap.size + 1, 0, none⟩ (.bool true)).same D _ hK rfl
    refine ⟨by simp, .inl ⟨_, _, rfl, run_takeDeferred hK', ?_⟩⟩
    have hc5 := cell_kept (show (W.setCell ⟨w.heap.size + 1, 0, none⟩ (.bool true)).cell? ⟨w.heap.size + 1, 0, none⟩ = some (.bool true) from blk_cell (blk_put H2.out 0 _ rfl) 0) (grownBy_putObj' _ D (.deferred none)) (fun r e => by cases e; exact ⟨_, hK', rfl⟩)
    refine ⟨.bool true, ?_, by rw [HY.out], ?_⟩
    · simp [results, Try.f35, go_sem, hc5]
    · exact (h4.setCell (p := ⟨w.heap.size + 1, 0, none⟩) (by simp) _).trans (belowK_b (w := w) (Nat.le_refl _) _ D _ _ (by omega) hK' rfl rfl)
  case stop =>
    rintro D c pre W hD hp ⟨rfl, h2, h3, h4⟩ hK
    have HY := Aside0.mk (show decide ((preT t).length ≤ 300) = false from decide_eq_false (by have := hp.length_le; rw [List.length_map] at this; omega))
    have hc5 := cell_kept (show W.cell? ⟨w.heap.size + 1, 0, none⟩ = some (.bool false) from blk_cell h2 0) (grownBy_putObj' _ D (.deferred none)) (fun r e => by cases e; exact ⟨_, hK, rfl⟩)
    clear h2 h3 hp
    gi_wp2
    refine ⟨by simp, .inl ⟨_, _, rfl, run_takeDeferred hK, ?_⟩⟩
    refine ⟨.bool false, ?_, by rw [HY.out], ?_⟩
    · simp [results, Try.f35, go_sem, hc5]
    · exact h4.trans (belowK_b (w := w) (Nat.le_refl _) _ D _ _ (by omega) hK rfl rfl)

def hasT (t : S26) (kd : Int) : Bool := (preT t).any fun x => decide (x.f0 = kd)
theorem NV.enc_eq (v : NV) : v.enc = .agg #[.int .i64 v.x.f0, .int .i64 v.x.f1, .string v.x.f2, .slice v.A3 v.x.f3.length v.c3, .slice v.A4 v.x.f4.length v.c4] := rfl
set_option maxRecDepth 100000 in
set_option maxHeartbeats 2000000 in
theorem has_calls (t : S26) (kd : Int) (w : World) (A3 : Option Addr) (c3 : Nat) (A4 : Option Addr) (c4 : Nat) (g4 : k26.C w A4 t.f4.length t.f4) :
    Calls Try.prog 31 #[Value.agg #[.int .i64 t.f0, .int .i64 t.f1, .string t.f2, .slice A3 t.f3.length c3, .slice A4 t.f4.length c4], .int .i64 kd] w fun e w' => e = .returned (.bool (hasT t kd)) ∧ Below w.heap.size w w' := by
  have HF := Aside0.mk (Kd.C_F k26_heap g4)
  clear g4
  refine (callsIn_wide (n := 3)).1 ?_
  refine callsIn_of_wp_marks Try.func31 rfl trivial ?_ rfl
  simp only [Try.ntmps31, List.size_toArray, List.length_cons, List.length_nil, Nat.reduceAdd, Nat.reduceSub, Array.replicate_succ, Array.replicate_zero, List.push_toArray, List.append_toArray, List.nil_append, List.cons_append]
  gi_wp2_with ((try first | refine ⟨trivial, fun h => (by cases h), ?_⟩ | refine ⟨trivial, ?_⟩); gi_at_call 68; refine (nodes_in _ _ ⟨_, _, _, _, _, rfl⟩ _).mono ?_; rintro e w' ⟨rfl, rfl⟩)
  have hbt := blk_new ((((w.alloc (.cells #[.int .i64 t.f0, .int .i64 t.f1, .string t.f2, .slice A3 t.f3.length c3, .slice A4 t.f4.length c4] 26)).alloc (.cells #[.int .i64 kd] 3)).alloc (.cells #[.bool false] 4))) (.cells #[.int .i64 t.f0, .int .i64 t.f1, .string t.f2, .slice A3 t.f3.length c3, .slice A4 t.f4.length c4] 26)
  have hbk := blk_alloc (blk_alloc (blk_new ((w.alloc (.cells #[.int .i64 t.f0, .int .i64 t.f1, .string t.f2, .slice A3 t.f3.length c3, .slice A4 t.f4.length c4] 26))) (.cells #[.int .i64 kd] 3)) (.cells #[.bool false] 4)) (.cells #[.int .i64 t.f0, .int .i64 t.f1, .string t.f2, .slice A3 t.f3.length c3, .slice A4 t.f4.length c4] 26)
  have hbr := blk_alloc (blk_new (((w.alloc (.cells #[.int .i64 t.f0, .int .i64 t.f1, .string t.f2, .slice A3 t.f3.length c3, .slice A4 t.f4.length c4] 26)).alloc (.cells #[.int .i64 kd] 3))) (.cells #[.bool false] 4)) (.cells #[.int .i64 t.f0, .int .i64 t.f1, .string t.f2, .slice A3 t.f3.length c3, .slice A4 t.f4.length c4] 26)
  simp only [World.size_alloc] at hbt hbr hbk
  have hb0 : Below w.heap.size w (((((w.alloc (.cells #[.int .i64 t.f0, .int .i64 t.f1, .string t.f2, .slice A3 t.f3.length c3, .slice A4 t.f4.length c4] 26)).alloc (.cells #[.int .i64 kd] 3)).alloc (.cells #[.bool false] 4)).alloc (.cells #[.int .i64 t.f0, .int .i64 t.f1, .string t.f2, .slice A3 t.f3.length c3, .slice A4 t.f4.length c4] 26))) := below_alloc (below_alloc (below_alloc (below_alloc (Below.refl _ _) _) _) _) _
  obtain ⟨W0, hW0⟩ : ∃ W0, ((((w.alloc (.cells #[.int .i64 t.f0, .int .i64 t.f1, .string t.f2, .slice A3 t.f3.length c3, .slice A4 t.f4.length c4] 26)).alloc (.cells #[.int .i64 kd] 3)).alloc (.cells #[.bool false] 4)).alloc (.cells #[.int .i64 t.f0, .int .i64 t.f1, .string t.f2, .slice A3 t.f3.length c3, .slice A4 t.f4.length c4] 26)) = W0 := ⟨_, rfl⟩
  have hsz : W0.heap.size = w.heap.size + 4 := by rw [← hW0]; simp
  rw [hW0] at hbt hbr hbk hb0 ⊢
  refine wpIn_rangeFunc_ownH rfl (by omega) (gf := 100) (lb := #[.pointer (some ⟨w.heap.size + 1 + 1 + 1, 0, none⟩)]) rfl trivial (enters_of Try.func100 (by kernel_rfl) rfl)
    (nodes_stops _ t w.heap.size (w.heap.size + 1 + 1 + 1) A3 c3 A4 c4 W0 (by omega) hbt (Kd.F_step HF.out (fun b hb _ => hb0.block b hb))) (fun h k => h.trans k) (fun W l o o' hl h hc hw => kt_b (by omega) W l o o' hl h hc hw) (Below.refl _ _) (fun _ => rfl)
    (fun pre W => W.heap[w.heap.size + 1]? = some (.cells #[.int .i64 kd] 3 (0, 0)) ∧ W.heap[w.heap.size + 1 + 1]? = some (.cells #[.bool false] 4 (0, 0)) ∧ (∀ v ∈ pre, v.x.f0 ≠ kd) ∧ Below w.heap.size w W ∧ w.heap.size + 4 ≤ W.heap.size)
    (fun c pre W => c = .ret ∧ W.heap[w.heap.size + 1 + 1]? = some (.cells #[.bool true] 4 (0, 0)) ∧ (∃ v ∈ pre, v.x.f0 = kd) ∧ Below w.heap.size w W) ?hI ?hIx ⟨hbk, hbr, fun v hv => (by cases hv), hb0, by omega⟩
    (fun x a' W => ∃ Bx, W0.heap.size ≤ Bx ∧ W.heap[Bx]? = some (.cells #[.int .i64 x.x.f0, .int .i64 x.x.f1, .string x.x.f2, .slice x.A3 x.x.f3.length x.c3, .slice x.A4 x.x.f4.length x.c4] 26 (0, 0)) ∧ a' = { tmps := #[Value.agg #[.int .i64 t.f0, .int .i64 t.f1, .string t.f2, .slice A3 t.f3.length c3, .slice A4 t.f4.length c4], .int .i64 kd, .pointer (some ⟨w.heap.size, 0, none⟩), .pointer (some ⟨w.heap.size + 1, 0, none⟩), .pointer (some ⟨w.heap.size + 1 + 1, 0, none⟩), .pointer (some ⟨Bx, 0, none⟩), Value.agg #[.int .i64 t.f0, .int .i64 t.f1, .string t.f2, .slice A3 t.f3.length c3, .slice A4 t.f4.length c4], .func (.func 100) #[] #[.pointer (some ⟨w.heap.size + 1 + 1 + 1, 0, none⟩)], x.enc, undef, undef, undef, undef], defers := [] }) ?hAx ?assign ?body ?done ?stop
  case hI =>
    rintro s A B row ⟨h1, h2, h3, h4, h5⟩ hg hr
    exact ⟨blk_grown h1 hg (fun e => by have := (hr _ e.symm).1; omega), blk_grown h2 hg (fun e => by have := (hr _ e.symm).1; omega), h3, h4.grown hg h4.size (fun r e => by have := (hr _ e).1; omega), Nat.le_trans h5 hg.size⟩
  case hIx =>
    rintro c s A B row ⟨h1, h2, h3, h4⟩ hg hr
    exact ⟨h1, blk_grown h2 hg (fun e => by have := (hr _ e.symm).1; omega), h3, h4.grown hg h4.size (fun r e => by have := (hr _ e).1; omega)⟩
  case hAx =>
    rintro x a' _ A B row ⟨Bx, h1, h2, h3⟩ hg hr
    refine ⟨Bx, h1, blk_grown h2 hg (fun e => ?_), h3⟩
    obtain ⟨_, o, ho, hc⟩ := hr _ e.symm
    rw [ho] at h2
    cases h2
    simp [Obj.isCells] at hc
  case assign =>
    intro l pre x W K hi hK
    have hi5 := hi.2.2.2.2
    simp only [NV.enc_eq] at hK ⊢
    gi_wp2
    exact hK _ _ ((KeepsOthers.alloc _ _).from _) ((KT.refl _ _).alloc (by omega) _) ⟨blk_alloc hi.1 _, blk_alloc hi.2.1 _, hi.2.2.1, hi.2.2.2.1.alloc (by omega) _, by simp; omega⟩ ⟨W.heap.size, by omega, blk_new _ _, by simp⟩
  case body =>
    rintro l pre x a' W hl _ ⟨h1, h2, h3, h4, h5⟩ ⟨Bx, hB1, hB2, rfl⟩ hlt
    have hc := blk_cell h1 0
    have hc2 := blk_cell h2 0
    have hf2 := blk_frozen h2 0
    have hcx := blk_cell hB2 0
    simp at hc hc2 hcx
    have H1 := Aside0.mk h1
    have H2 := Aside0.mk h2
    have H3 := Aside0.mk h3
    have H4 := Aside0.mk h4
    clear h1 h2 h3 h4 hB2
    simp only [NV.enc_eq]
    by_cases he : x.x.f0 = kd
    · have he' : (x.x.f0 == kd) = true := beq_iff_eq.2 he
      have HE := Aside0.mk he
      clear he
      gi_wp2
      refine ⟨(KeepsOthers.setCell _ _ _).from _, rfl, blk_put H2.out 0 _ rfl, ⟨x, by simp, HE.out⟩, H4.out.setCell (p := ⟨w.heap.size + 1 + 1, 0, none⟩) (by simp; omega) _⟩
    · have he' : (x.x.f0 == kd) = false := beq_eq_false_iff_ne.2 he
      have HE := Aside0.mk he
      clear he
      gi_wp2
      refine ⟨KeepsFrom.refl _ _, KT.refl _ _, H1.out, H2.out, fun v hv => ?_, H4.out, h5⟩
      rcases List.mem_append.1 hv with hv | hv
      · exact H3.out v hv
      · rw [List.mem_singleton.1 hv]; exact HE.out
  case done =>
    rintro D ys W hD hy ⟨h1, h2, h3, h4, h5⟩ hK
    have hcr := blk_cell h2 0
    have hfr := blk_frozen h2 0
    simp at hcr
    have HY := Aside0.mk (show hasT t kd = false from by
      unfold hasT; rw [← hy, List.any_map, List.any_eq_false]; exact fun v hv => by simpa using h3 v hv)
    have H2 := Aside0.mk h2
    clear h1 h2 h3 hy
    gi_wp2
    have hK' := (KeepsOthers.setCell W ⟨w.heap.size + 1 + 1, 0, none⟩ (.bool false)).same D _ hK rfl
    refine ⟨by simp, .inl ⟨_, _, rfl, run_takeDeferred hK', ?_⟩⟩
    have hc5 := cell_kept (show (W.setCell ⟨w.heap.size + 1 + 1, 0, none⟩ (.bool false)).cell? ⟨w.heap.size + 1 + 1, 0, none⟩ = some (.bool false) from blk_cell (blk_put H2.out 0 _ rfl) 0) (grownBy_putObj' _ D (.deferred none)) (fun r e => by cases e; exact ⟨_, hK', rfl⟩)
    refine ⟨.bool false, ?_, by rw [HY.out], ?_⟩
    · simp [results, Try.f31, go_sem, hc5]
    · exact (h4.setCell (p := ⟨w.heap.size + 1 + 1, 0, none⟩) (by simp; omega) _).trans (belowK_b (w := w) (Nat.le_refl _) _ D _ _ (by omega) hK' rfl rfl)
  case stop =>
    rintro D c pre W hD hp ⟨rfl, h2, ⟨v, hv, h3⟩, h4⟩ hK
    have HY := Aside0.mk (show hasT t kd = true from by
      unfold hasT; rw [List.any_eq_true]; exact ⟨v.x, hp.subset (List.mem_map.2 ⟨v, hv, rfl⟩), decide_eq_true h3⟩)
    have hc5 := cell_kept (show W.cell? ⟨w.heap.size + 1 + 1, 0, none⟩ = some (.bool true) from blk_cell h2 0) (grownBy_putObj' _ D (.deferred none)) (fun r e => by cases e; exact ⟨_, hK, rfl⟩)
    clear h2 h3 hp hv
    gi_wp2
    refine ⟨by simp, .inl ⟨_, _, rfl, run_takeDeferred hK, ?_⟩⟩
    refine ⟨.bool true, ?_, by rw [HY.out], ?_⟩
    · simp [results, Try.f31, go_sem, hc5]
    · exact h4.trans (belowK_b (w := w) (Nat.le_refl _) _ D _ _ (by omega) hK rfl rfl)
end Go.Proofs.Ytkeeknlfommieaa.PF
