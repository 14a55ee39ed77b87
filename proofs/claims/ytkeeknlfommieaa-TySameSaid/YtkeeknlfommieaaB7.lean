/- ty.Vars: the variables of a type, sorted, each once. -/
import Derived.Test.YtkeeknlfommieaaB6
import Derived.Test.YtkeeknlfommieaaShelf
import Derived.Maps.AppendAt
import Derived.Sort.OwnSorted
import Derived.Lib.OwnBridge
namespace Go.Proofs.Ytkeeknlfommieaa.PF
open Go.RowKit Go.Shelf Go.Sort Go.Proofs.YtkeeknlfommieaaW.PrintWords Go.Proofs.YtkeeknlfommieaaW.PrintLast Go.Proofs.YtkeeknlfommieaaW.PrintMore
attribute [local go_sem] Oper.semAt_some

/-- The names of the variables among types, in order. -/
def namesL (l : List S26) : List ByteArray := (l.filter fun x => decide (x.f0 = 6)).map S26.f2
def sortedVars (t : S26) : List (List UInt8) := Lib.compact ((bl (namesL (preT t))).mergeSort fun x y => decide (x ≤ y))
theorem namesL_snoc (l : List S26) (x : S26) : namesL (l ++ [x]) = namesL l ++ (if x.f0 = 6 then [x.f2] else []) := by
  unfold namesL
  rw [List.filter_append, List.map_append]
  by_cases h : x.f0 = 6 <;> simp [h]
theorem namesL_le (l : List S26) : (namesL l).length ≤ l.length := by unfold namesL; rw [List.length_map]; exact List.length_filter_le _ _
def namesV (pre : List NV) : List ByteArray := namesL (pre.map NV.x)
theorem namesV_yes (pre : List NV) (x : NV) (h : x.x.f0 = 6) : namesV (pre ++ [x]) = namesV pre ++ [x.x.f2] := by unfold namesV; rw [List.map_append]; exact (namesL_snoc _ _).trans (by rw [if_pos h])
theorem namesV_no (pre : List NV) (x : NV) (h : x.x.f0 ≠ 6) : namesV (pre ++ [x]) = namesV pre := by unfold namesV; rw [List.map_append]; exact (namesL_snoc _ _).trans (by rw [if_neg h, List.append_nil])
theorem namesV_le (pre : List NV) : (namesV pre).length ≤ pre.length := by unfold namesV; exact Nat.le_trans (namesL_le _) (by simp)
/-- What the loop holds: the variable 'out' owns the names so far. -/
def VarsInv (w : World) (pre : List NV) (W : World) : Prop :=
  (∃ v, Boxed W (w.heap.size + 1) 23 v ∧ W.ownsRow w.heap.size 9 1 v (namesV pre).length ((namesV pre).map Value.string) ∧ (v = .slice none 0 0 ↔ namesV pre = [])) ∧ Below w.heap.size w W ∧ w.heap.size + 3 ≤ W.heap.size
theorem varsInv_own (w : World) (B : Nat) (hB : w.heap.size ≤ B) : OwnFrom B (VarsInv w) := by
  rintro s X Y row ⟨h1, h2, h3⟩ hg hr
  exact ⟨holdsRow_own w.heap.size (w.heap.size + 1) 23 9 1 (fun pre => (namesV pre).length) (fun pre => (namesV pre).map Value.string) (fun pre v => (v = .slice none 0 0 ↔ namesV pre = [])) s X Y row h1 hg (fun r e => (hr r e).2), h2.grown hg h2.size (fun r e => by have := (hr _ e).1; omega), Nat.le_trans h3 hg.size⟩

theorem grownBy_putRow {α : Type} [Inhabited α] {enc : α → Value} (w : World) (q g : Nat) {d : Array α} : w.grownBy (putRow enc (Sort.ahead w q) g 0 d) (some g) := by
  refine ⟨rfl, rfl, rfl, by simp [putRow, mapBlock, Sort.ahead], fun k hk hne => ?_⟩
  have : g ≠ k := fun e => hne (by rw [e])
  simp [putRow, mapBlock, Sort.ahead, Array.getElem?_modify, this]
theorem vars_left {w w1 : World} {g cap n nn q : Nat} {os : Array Obj} {ss : List (List UInt8)} (hown : w1.ownsRow w.heap.size 9 1 (.slice (some ⟨g, 0, none⟩) n cap) n (ss.map encStr)) (hbel : Below w.heap.size w w1) (hbg : w.heap.size ≤ g) (hlen : ss.length = n) :
    (putRow encStr (Sort.ahead (grow (putRow encStr (Sort.ahead w1 nn) g 0 (ss.mergeSort fun x y => decide (x ≤ y)).toArray) os) q) g 0 (Lib.compact (ss.mergeSort fun x y => decide (x ≤ y)) ++ List.replicate (n - (Lib.compact (ss.mergeSort fun x y => decide (x ≤ y))).length) []).toArray).ownsRow w.heap.size 9 1 (.slice (some ⟨g, 0, none⟩) (Lib.compact (ss.mergeSort fun x y => decide (x ≤ y))).length cap) (Lib.compact (ss.mergeSort fun x y => decide (x ≤ y))).length ((Lib.compact (ss.mergeSort fun x y => decide (x ≤ y))).map encStr)
    ∧ Below w.heap.size w (putRow encStr (Sort.ahead (grow (putRow encStr (Sort.ahead w1 nn) g 0 (ss.mergeSort fun x y => decide (x ≤ y)).toArray) os) q) g 0 (Lib.compact (ss.mergeSort fun x y => decide (x ≤ y)) ++ List.replicate (n - (Lib.compact (ss.mergeSort fun x y => decide (x ≤ y))).length) []).toArray) := by
  have hl2 : (ss.mergeSort fun x y => decide (x ≤ y)).length = ss.length := List.length_mergeSort ss
  have hle := Lib.compact_length_le (ss.mergeSort fun x y => decide (x ≤ y))
  subst hlen
  rcases hown.2 with ⟨h0, _⟩ | ⟨g', cap', cur, hv, hbase, hb, h1, h2, h3, h4⟩
  · cases h0
  cases hv
  have hs := ownsRow_sorted (n := nn) (os := os) (ts := ss.mergeSort fun x y => decide (x ≤ y)) hl2 hbase hb h1 h2 h3
  have hc := Lib.ownsRow_putRow (q := q) (k := (Lib.compact (ss.mergeSort fun x y => decide (x ≤ y))).length) (ys := Lib.compact (ss.mergeSort fun x y => decide (x ≤ y)) ++ List.replicate (ss.length - (Lib.compact (ss.mergeSort fun x y => decide (x ≤ y))).length) []) hs (by simp; omega) (by omega)
  rw [List.take_left] at hc
  exact ⟨hc, Lib.below_putRow (hbel.grown (grownBy_sorted _) hbel.size (fun j hj => by cases hj; exact hbase)) hbg⟩
theorem c_of_own {w : World} {base n : Nat} {v : Value} {ls : List (List UInt8)} (h : w.ownsRow base 9 1 v n (ls.map encStr)) : ∃ A c, v = .slice A n c ∧ n ≤ c ∧ Kd.string.C w A n (ls.map fun l => ⟨l.toArray⟩) := by
  have hl : ls.length = n := by simpa using h.1
  have hR : Kd.string.R 9 w base (fun _ => True) v (ls.map fun l => (⟨l.toArray⟩ : ByteArray)) := ⟨fun _ _ => trivial, ls.map encStr, by rw [List.length_map, hl]; exact h, ⟨by simp [Kd.string, Kd.scalar], fun j p hj => by
    show ((ls.map encStr).drop (j * 1)).take 1 = [.string p]
    obtain ⟨hjl, hp⟩ := List.getElem?_eq_some_iff.1 hj
    have hjl' : j < ls.length := by simpa using hjl
    rw [Nat.mul_one, List.drop_eq_getElem_cons (by simpa using hjl')]
    simp at hp
    simp [← hp, encStr]⟩⟩
  obtain ⟨A, c, hv, hle, hC⟩ := Kd.R_reads hR
  rw [List.length_map, hl] at hv hle hC
  exact ⟨A, c, hv, hle, hC⟩

set_option maxRecDepth 100000 in
set_option maxHeartbeats 2000000 in
theorem vars_calls (t : S26) (w : World) (A3 : Option Addr) (c3 : Nat) (A4 : Option Addr) (c4 : Nat) (g4 : k26.C w A4 t.f4.length t.f4) (hbig : (preT t).length ≤ 4294967296) :
    Calls Try.prog 33 #[Value.agg #[.int .i64 t.f0, .int .i64 t.f1, .string t.f2, .slice A3 t.f3.length c3, .slice A4 t.f4.length c4]] w fun e w' => (∃ A c, e = .returned (.slice A (sortedVars t).length c) ∧ (sortedVars t).length ≤ c ∧ Kd.string.C w' A (sortedVars t).length ((sortedVars t).map fun l => ⟨l.toArray⟩)) ∧ Below w.heap.size w w' := by
  have HF := Aside0.mk (Kd.C_F k26_heap g4)
  have HBIG := Aside0.mk hbig
  clear g4 hbig
  refine (callsIn_wide (n := 3)).1 ?_
  refine callsIn_of_wp_marks Try.func33 rfl trivial ?_ rfl
  simp only [Try.ntmps33, List.size_toArray, List.length_cons, List.length_nil, Nat.reduceAdd, Nat.reduceSub, Array.replicate_succ, Array.replicate_zero, List.push_toArray, List.append_toArray, List.nil_append, List.cons_append]
  gi_wp2_with ((try first | refine ⟨trivial, fun h => (by cases h), ?_⟩ | refine ⟨trivial, ?_⟩); gi_at_call 68; refine (nodes_in _ _ ⟨_, _, _, _, _, rfl⟩ _).mono ?_; rintro e w' ⟨rfl, rfl⟩)
  have hbt := blk_new (((w.alloc (.cells #[.int .i64 t.f0, .int .i64 t.f1, .string t.f2, .slice A3 t.f3.length c3, .slice A4 t.f4.length c4] 26)).alloc (.cells #[.slice none 0 0] 23))) (.cells #[.int .i64 t.f0, .int .i64 t.f1, .string t.f2, .slice A3 t.f3.length c3, .slice A4 t.f4.length c4] 26)
  have hbo := blk_alloc (blk_new ((w.alloc (.cells #[.int .i64 t.f0, .int .i64 t.f1, .string t.f2, .slice A3 t.f3.length c3, .slice A4 t.f4.length c4] 26))) (.cells #[.slice none 0 0] 23)) (.cells #[.int .i64 t.f0, .int .i64 t.f1, .string t.f2, .slice A3 t.f3.length c3, .slice A4 t.f4.length c4] 26)
  simp only [World.size_alloc] at hbt hbo
  have hb0 : Below w.heap.size w ((((w.alloc (.cells #[.int .i64 t.f0, .int .i64 t.f1, .string t.f2, .slice A3 t.f3.length c3, .slice A4 t.f4.length c4] 26)).alloc (.cells #[.slice none 0 0] 23)).alloc (.cells #[.int .i64 t.f0, .int .i64 t.f1, .string t.f2, .slice A3 t.f3.length c3, .slice A4 t.f4.length c4] 26))) := below_alloc (below_alloc (below_alloc (Below.refl _ _) _) _) _
  obtain ⟨W0, hW0⟩ : ∃ W0, (((w.alloc (.cells #[.int .i64 t.f0, .int .i64 t.f1, .string t.f2, .slice A3 t.f3.length c3, .slice A4 t.f4.length c4] 26)).alloc (.cells #[.slice none 0 0] 23)).alloc (.cells #[.int .i64 t.f0, .int .i64 t.f1, .string t.f2, .slice A3 t.f3.length c3, .slice A4 t.f4.length c4] 26)) = W0 := ⟨_, rfl⟩
  have hsz : W0.heap.size = w.heap.size + 3 := by rw [← hW0]; simp
  rw [hW0] at hbt hbo hb0 ⊢
  refine wpIn_rangeFunc_ownH rfl (by omega) (gf := 100) (lb := #[.pointer (some ⟨w.heap.size + 1 + 1, 0, none⟩)]) rfl trivial (enters_of Try.func100 (by kernel_rfl) rfl)
    (nodes_stops _ t w.heap.size (w.heap.size + 1 + 1) A3 c3 A4 c4 W0 (by omega) hbt (Kd.F_step HF.out (fun b hb _ => hb0.block b hb))) (fun h k => h.trans k) (fun W l o o' hl h hc hw => kt_b (by omega) W l o o' hl h hc hw) (Below.refl _ _) (fun _ => rfl)
    (VarsInv w) (fun _ _ _ => False) (varsInv_own w _ (by omega)) (fun _ _ _ _ _ hs _ _ => hs) ⟨⟨_, hbo, World.ownsRow_nil _ _ _ _, by simp [namesV, namesL]⟩, hb0, by omega⟩
    (fun x a' W => ∃ Bx, W0.heap.size ≤ Bx ∧ W.heap[Bx]? = some (.cells #[.int .i64 x.x.f0, .int .i64 x.x.f1, .string x.x.f2, .slice x.A3 x.x.f3.length x.c3, .slice x.A4 x.x.f4.length x.c4] 26 (0, 0)) ∧ a' = { tmps := #[Value.agg #[.int .i64 t.f0, .int .i64 t.f1, .string t.f2, .slice A3 t.f3.length c3, .slice A4 t.f4.length c4], .pointer (some ⟨w.heap.size, 0, none⟩), .slice none 0 0, .pointer (some ⟨w.heap.size + 1, 0, none⟩), .pointer (some ⟨Bx, 0, none⟩), Value.agg #[.int .i64 t.f0, .int .i64 t.f1, .string t.f2, .slice A3 t.f3.length c3, .slice A4 t.f4.length c4], .func (.func 100) #[] #[.pointer (some ⟨w.heap.size + 1 + 1, 0, none⟩)], x.enc, undef, undef, undef, undef, undef, undef, undef, undef, undef, undef, undef, undef], defers := [] }) ?hAx ?assign ?body ?done ?stop
  case hAx =>
    rintro x a' _ A B row ⟨Bx, h1, h2, h3⟩ hg hr
    refine ⟨Bx, h1, blk_grown h2 hg (fun e => ?_), h3⟩
    obtain ⟨_, o, ho, hc⟩ := hr _ e.symm
    rw [ho] at h2
    cases h2
    simp [Obj.isCells] at hc
  case assign =>
    intro l pre x W K hi hK
    have hi5 := hi.2.2
    have HI := Aside0.mk hi
    clear hi
    simp only [NV.enc_eq] at hK ⊢
    gi_wp2
    refine hK _ _ ((KeepsOthers.alloc _ _).from _) ((KT.refl _ _).alloc (by omega) _) ?_ ⟨W.heap.size, by omega, blk_new _ _, by simp⟩
    exact varsInv_own w w.heap.size (Nat.le_refl _) _ _ _ none HI.out (World.grownBy_alloc _ _ none) (fun r e => by cases e)
  case body =>
    rintro l pre x a' W hl _ ⟨⟨v, hv, hrow, hnil⟩, hB, h5⟩ ⟨Bx, hB1, hB2, rfl⟩ hlt
    have hcx0 := blk_cell hB2 0
    have hcx2 := blk_cell hB2 2
    simp at hcx0 hcx2
    have HX := Aside0.mk hB2
    have HHB := Aside0.mk hB
    have HNIL := Aside0.mk hnil
    clear hB2 hnil
    simp only [NV.enc_eq]
    by_cases he : x.x.f0 = 6
    · have he' : (x.x.f0 == 6) = true := beq_iff_eq.2 he
      have HE := Aside0.mk he
      have hle := namesV_le pre
      have hbg := HBIG.out
      have hvc := hv.cell
      clear he
      obtain ⟨i0, hi, hz0, hz1, hz2⟩ := info_parts info9
      obtain ⟨nk, hnk⟩ : ∃ nk, (namesV pre).length = nk := ⟨_, rfl⟩
      rw [hnk] at hrow hle
      have HNK := Aside0.mk hnk
      clear hnk
      gi_wp2_with ((gi_at_builtin; refine wpListIn_append_own _ rfl _ _ 23 rfl w.heap.size 9 i0 (.string ⟨#[]⟩) 1 16 Try.underlying23 hi hz0 hz1 hz2 rfl (by decide) _ _ _ rfl (hrow.alloc _) ⟨W.heap.size, 0, none⟩ 1 1 [.string x.x.f2] rfl rfl (cell_one_new _ _ _) (by simp [Value.oneCell']) (by simp [maxLen]; omega) (by omega) (by have := hB.size; simp; omega) ?_; intro v' w1 hown' hgrow _; obtain ⟨g', cap', rfl⟩ := ownsRow_succ hown'; obtain ⟨hv1, hv2, hr2, hk2, hb2⟩ := hv.appended (by decide) hrow hB.size (Nat.le_succ _) hown' hgrow; have hc1 := hv1.cell; have hf1 := hv1.frozen))
      refine ⟨hk2.from _, ⟨hb2, fun b c hb => ?_⟩, ⟨⟨_, hv2, ?_, ?_⟩, HHB.out.trans hb2, ?_⟩⟩
      · have hne : some b ≠ v.ownBlock := fun e => by
          obtain ⟨cells, hc⟩ := own_typed hrow b e.symm
          rw [hc] at hb; cases hb
        have hne2 : b ≠ w.heap.size + 1 := fun e => by
          rw [e, show W.heap[w.heap.size + 1]? = _ from hv] at hb; cases hb
        exact (Below.heap_setCell _ _ _ _ hne2).trans (blk_grown (blk_alloc hb _) hgrow hne)
      · rw [namesV_yes _ _ HE.out, List.length_append, List.map_append, HNK.out]; exact hr2
      · rw [namesV_yes _ _ HE.out]; simp
      · have h_ := hk2.size; omega
    · have he' : (x.x.f0 == 6) = false := beq_eq_false_iff_ne.2 he
      have HE := Aside0.mk he
      have HR := Aside0.mk (And.intro hv hrow)
      clear he hv hrow
      gi_wp2
      refine ⟨KeepsFrom.refl _ _, KT.refl _ _, ⟨v, HR.out.1, ?_, ?_⟩, HHB.out, h5⟩
      · rw [namesV_no _ _ HE.out]; exact HR.out.2
      · rw [namesV_no _ _ HE.out]; exact HNIL.out
  case stop =>
    rintro D c pre W _ _ h _
    exact h.elim
  case done =>
    rintro D ys W hD hy ⟨⟨v, hv, hrow, hnil⟩, hB, h5⟩ hK
    have hvc := hv.cell
    have hny : namesV ys = namesL (preT t) := by unfold namesV; rw [hy]
    rw [hny] at hrow hnil
    have HV := Aside0.mk hv
    have HHB := Aside0.mk hB
    have HK := Aside0.mk hK
    clear hy hny hv hB hK
    by_cases hemp : namesL (preT t) = []
    · have hv0 : v = .slice none 0 0 := hnil.2 hemp
      subst hv0
      have HE := Aside0.mk (show sortedVars t = [] from by unfold sortedVars; rw [hemp]; simp only [bl, List.map_nil, List.mergeSort_nil]; rfl)
      clear hnil hemp hrow
      gi_wp2_with (first | ((try first | refine ⟨trivial, fun h => (by cases h), ?_⟩ | refine ⟨trivial, ?_⟩); gi_at_call 69; refine (callsIn_wide.2 (Try.slices_Sort_string_none none 0 W)).mono ?_; rintro e w' ⟨rfl, rfl⟩) | ((try first | refine ⟨trivial, fun h => (by cases h), ?_⟩ | refine ⟨trivial, ?_⟩); gi_at_call 70; refine (callsIn_wide.2 (Try.slices_Compact_string_empty none 0 _)).mono ?_; rintro e w' ⟨rfl, rfl⟩))
      refine ⟨by simp, .inl ⟨_, _, rfl, run_takeDeferred HK.out, ?_⟩⟩
      refine ⟨_, results_tmp rfl _ _ _, ⟨none, 0, ?_, ?_, ?_⟩, HHB.out.trans (belowK_b (w := w) (Nat.le_refl _) _ D _ _ (by omega) HK.out rfl rfl)⟩
      · rw [HE.out]; rfl
      · rw [HE.out]; exact Nat.le_refl _
      · rw [HE.out]; exact Kd.C_nil _ _
    · rw [← Lib.map_encStr] at hrow
      have hnn : v ≠ .slice none 0 0 := fun h => hemp (hnil.1 h)
      obtain ⟨g, cap, rfl, hbg, hgl, hncap, hcm, hlen, hH⟩ := Lib.holds_of_ownsRow hrow hnn
      obtain ⟨ss, hss⟩ : ∃ ss, (namesL (preT t)).map (·.data.toList) = ss := ⟨_, rfl⟩
      obtain ⟨n, hn⟩ : ∃ n, (namesL (preT t)).length = n := ⟨_, rfl⟩
      have HS := Aside0.mk (show sortedVars t = Lib.compact (ss.mergeSort fun x y => decide (x ≤ y)) from by unfold sortedVars bl; rw [hss])
      have hn4 : n ≤ 4294967296 := by rw [← hn]; exact Nat.le_trans (namesL_le _) HBIG.out
      rw [hss, hn] at hrow
      rw [hss] at hH
      rw [hss, hn] at hlen
      rw [hn] at hncap
      have hsort := Try.slices_Sort_string g 0 cap ss W hH hgl (by omega)
      have hl2 : (ss.mergeSort fun x y => decide (x ≤ y)).length = ss.length := List.length_mergeSort ss
      have hcomp := fun nn os => Try.slices_Compact_string g 0 cap (ss.mergeSort fun x y => decide (x ≤ y)) (grow (putRow encStr (Sort.ahead W nn) g 0 (ss.mergeSort fun x y => decide (x ≤ y)).toArray) os)
         (holds_grow encStr _ os g 0 _ (by simpa [putRow, mapBlock, Sort.ahead] using hgl) (holds_putRow encStr _ g 0 _ _ (holds_ahead encStr W nn g 0 _ hH) (by simp))) (by rw [hl2]; omega) (by rw [hl2]; omega)
      rw [hlen] at hsort
      rw [hlen] at hl2
      rw [hl2] at hcomp
      have HSO := Aside0.mk hsort
      have HCO := Aside0.mk hcomp
      have HOW := Aside0.mk (show W.ownsRow w.heap.size 9 1 (.slice (some ⟨g, 0, none⟩) n cap) n (ss.map encStr) from by rw [hn] at *; exact hrow)
      have HLE := Aside0.mk hlen
      rw [hn] at hvc HV
      have hgb : g ≠ w.heap.size + 1 := fun e => by
        obtain ⟨cells, hc⟩ := own_typed HOW.out g (by simp [Value.ownBlock])
        rw [e, show W.heap[w.heap.size + 1]? = _ from HV.out] at hc; cases hc
      clear hrow hnil hnn hH hss hn hsort hcomp hl2 hlen hemp
      gi_wp2_with fail
      (try first | refine ⟨trivial, fun h => (by cases h), ?_⟩ | refine ⟨trivial, ?_⟩)
      refine (callsIn_wide.2 HSO.out).mono ?_
      rintro e w2 ⟨rfl, nn, os, hw2⟩
      have HC2 := Aside0.mk (HCO.out nn os)
      rw [← hw2] at HC2
      have hvc2 : w2.cell? ⟨w.heap.size + 1, 0, none⟩ = some (.slice (some ⟨g, 0, none⟩) n cap) := by rw [hw2]; exact (HV.out.kept (grownBy_sorted _) (fun e => hgb (Option.some.inj e).symm)).cell
      have HW2 := Aside0.mk hw2
      clear hw2
      gi_wp2_with fail
      (try first | refine ⟨trivial, fun h => (by cases h), ?_⟩ | refine ⟨trivial, ?_⟩)
      refine (callsIn_wide.2 HC2.out).mono ?_
      rintro e w3 ⟨rfl, q, hw3⟩
      have HW3 := Aside0.mk hw3
      clear hw3
      gi_wp2
      have hg2 : W.grownBy w2 (some g) := by rw [HW2.out]; exact grownBy_sorted _
      have hg3 : w2.grownBy w3 (some g) := by rw [HW3.out]; exact grownBy_putRow _ _ _
      have hgD : some D ≠ some g := fun e => by
        obtain ⟨cells, hc⟩ := own_typed HOW.out g (by simp [Value.ownBlock])
        cases e; rw [HK.out] at hc; cases hc
      have hK3 : w3.heap[D]? = some (.deferred (some [])) := blk_grown (blk_grown HK.out hg2 hgD) hg3 hgD
      obtain ⟨h3o, h3b⟩ := vars_left (w := w) (w1 := W) (nn := nn) (os := os) (q := q) HOW.out HHB.out hbg HLE.out
      rw [← HW2.out, ← HW3.out] at h3o h3b
      refine ⟨by simp, .inl ⟨_, _, rfl, run_takeDeferred hK3, ?_⟩⟩
      have h4 := ownsRow_putObj h3o (.deferred none) hK3 rfl
      obtain ⟨A, c, hv, hle, hC⟩ := c_of_own h4
      refine ⟨_, results_tmp rfl _ _ _, ⟨A, c, ?_, ?_, ?_⟩, h3b.trans (belowK_b (w := w) (Nat.le_refl _) _ D _ _ (by omega) hK3 rfl rfl)⟩
      · rw [HS.out]; exact congrArg Ending.returned hv
      · rw [HS.out]; exact hle
      · rw [HS.out]; exact hC
end Go.Proofs.Ytkeeknlfommieaa.PF
