/- ty.Vars: the variables of a type, sorted, each once. · ty.Rec: words. · Records, in plain words: sorted fields are one list. · The reference's Rec in plain words (each field is put in its place); it is the sorted one. · ty.Rec: the walk. · The reference's Kind, Fine, Var of a text, in plain words. · A region that draws its order, whose operations read and whose callees make memory of their own and hand back a value that is told: walked once, in the order of the text; the class of worlds: those in which all that was there reads as before. -/
import Derived.Test.YtkeeknlfommieaaM1
import Derived.Maps.AppendAt
import Derived.Sort.OwnSorted
import Derived.Lib.OwnBridge
import Derived.Shelf.SlSortFuncK.ComposeK
import Derived.Test.YtkeeknlfommieaaM0
import Derived.Test.YtkeeknlfommieaaPFx7
import Derived.Test.YtkeeknlfommieaaPFx6
import Derived.Deep.QuietTactic
import Derived.BigQuiet
namespace Go.Proofs.Ytkeeknlfommieaa.PF
open Go.RowKit Go.Shelf Go.Sort Go.Proofs.YtkeeknlfommieaaW.PrintWords Go.Proofs.YtkeeknlfommieaaW.PrintLast Go.Proofs.YtkeeknlfommieaaW.PrintMore
attribute [local go_sem] Oper.semAt_some

/-- The names of the variables among types, in order. -/
def namesL (l : List S26) : List ByteArray := (l.filter fun x => decide (x.f0 = 6)).map S26.f2
def sortedVars (t : S26) : List (List UInt8) := Lib.compact ((bl (namesL (preT t))).mergeSort fun x y => decide (x ≤ y))
theorem namesL_snoc (l : List S26) (x : S26) : namesL (l ++ [x]) = namesL l ++ (if x.f0 = 6 then [x.f2] else []) := by
  unfold namesL
  rw [List.filter_append, List.map_append]
  by_cases h : x.f0 = 6 <;> simp [h]
theorem namesL_le (l : List S26) : (namesL l).length ≤ l.length := by unfold namesL; rw [List.length_map]; exact List.length_filter_le _ _
def namesV (pre : List NV) : List ByteArray := namesL (pre.map NV.x)
theorem namesV_yes (pre : List NV) (x : NV) (h : x.x.f0 = 6) : namesV (pre ++ [x]) = namesV pre ++ [x.x.f2] := by unfold namesV; rw [List.map_append]; exact (namesL_snoc _ _).trans (by rw [if_pos h])
theorem namesV_no (pre : List NV) (x : NV) (h : x.x.f0 ≠ 6) : namesV (pre ++ [x]) = namesV pre := by unfold namesV; rw [List.map_append]; exact (namesL_snoc _ _).trans (by rw [if_neg h, List.append_nil])
theorem namesV_le (pre : List NV) : (namesV pre).length ≤ pre.length := by unfold namesV; exact Nat.le_trans (namesL_le _) (by simp)
/-- What the loop holds: the variable 'out' owns the names so far. -/
def VarsInv (w : World) (pre : List NV) (W : World) : Prop :=
  (∃ v, Boxed W (w.heap.size + 1) 23 v ∧ W.ownsRow w.heap.size 9 1 v (namesV pre).length ((namesV pre).map Value.string) ∧ (v = .slice none 0 0 ↔ namesV pre = [])) ∧ Below w.heap.size w W ∧ w.heap.size + 3 ≤ W.heap.size
theorem varsInv_own (w : World) (B : Nat) (hB : w.heap.size ≤ B) : OwnFrom B (VarsInv w) := by
  rintro s X Y row ⟨h1, h2, h3⟩ hg hr
  exact ⟨holdsRow_own w.heap.size (w.heap.size + 1) 23 9 1 (fun pre => (namesV pre).length) (fun pre => (namesV pre).map Value.string) (fun pre v => (v = .slice none 0 0 ↔ namesV pre = [])) s X Y row h1 hg (fun r e => (hr r e).2), h2.grown hg h2.size (fun r e => by have := (hr _ e).1; omega), Nat.le_trans h3 hg.size⟩

theorem grownBy_putRow {α : Type} [Inhabited α] {enc : α → Value} (w : World) (q g : Nat) {d : Array α} : w.grownBy (putRow enc (Sort.ahead w q) g 0 d) (some g) := by
  refine ⟨rfl, rfl, rfl, by simp [putRow, mapBlock, Sort.ahead], fun k hk hne => ?_⟩
  have : g ≠ k := fun e => hne (by rw [e])
  simp [putRow, mapBlock, Sort.ahead, Array.getElem?_modify, this]
theorem vars_left {w w1 : World} {g cap n nn q : Nat} {os : Array Obj} {ss : List (List UInt8)} (hown : w1.ownsRow w.heap.size 9 1 (.slice (some ⟨g, 0, none⟩) n cap) n (ss.map encStr)) (hbel : Below w.heap.size w w1) (hbg : w.heap.size ≤ g) (hlen : ss.length = n) :
    (putRow encStr (Sort.ahead (grow (putRow encStr (Sort.ahead w1 nn) g 0 (ss.mergeSort fun x y => decide (x ≤ y)).toArray) os) q) g 0 (Lib.compact (ss.mergeSort fun x y => decide (x ≤ y)) ++ List.replicate (n - (Lib.compact (ss.mergeSort fun x y => decide (x ≤ y))).length) []).toArray).ownsRow w.heap.size 9 1 (.slice (some ⟨g, 0, none⟩) (Lib.compact (ss.mergeSort fun x y => decide (x ≤ y))).length cap) (Lib.compact (ss.mergeSort fun x y => decide (x ≤ y))).length ((Lib.compact (ss.mergeSort fun x y => decide (x ≤ y))).map encStr)
    ∧ Below w.heap.size w (putRow encStr (Sort.ahead (grow (putRow encStr (Sort.ahead w1 nn) g 0 (ss.mergeSort fun x y => decide (x ≤ y)).toArray) os) q) g 0 (Lib.compact (ss.mergeSort fun x y => decide (x ≤ y)) ++ List.replicate (n - (Lib.compact (ss.mergeSort fun x y => decide (x ≤ y))).length) []).toArray) := by
  have hl2 : (ss.mergeSort fun x y => decide (x ≤ y)).length = ss.length := List.length_mergeSort ss
  have hle := Lib.compact_length_le (ss.mergeSort fun x y => decide (x ≤ y))
  subst hlen
  rcases hown.2 with ⟨h0, _⟩ | ⟨g', cap', cur, hv, hbase, hb, h1, h2, h3, h4⟩
  · cases h0
  cases hv
  have hs := ownsRow_sorted (n := nn) (os := os) (ts := ss.mergeSort fun x y => decide (x ≤ y)) hl2 hbase hb h1 h2 h3
  have hc := Lib.ownsRow_putRow (q := q) (k := (Lib.compact (ss.mergeSort fun x y => decide (x ≤ y))).length) (ys := Lib.compact (ss.mergeSort fun x y => decide (x ≤ y)) ++ List.replicate (ss.length - (Lib.compact (ss.mergeSort fun x y => decide (x ≤ y))).length) []) hs (by simp; omega) (by omega)
  rw [List.take_left] at hc
  exact ⟨hc, Lib.below_putRow (hbel.grown (grownBy_sorted _) hbel.size (fun j hj => by cases hj; exact hbase)) hbg⟩
theorem c_of_own {w : World} {base n : Nat} {v : Value} {ls : List (List UInt8)} (h : w.ownsRow base 9 1 v n (ls.map encStr)) : ∃ A c, v = .slice A n c ∧ n ≤ c ∧ Kd.string.C w A n (ls.map fun l => ⟨l.toArray⟩) := by
  have hl : ls.length = n := by simpa using h.1
  have hR : Kd.string.R 9 w base (fun _ => True) v (ls.map fun l => (⟨l.toArray⟩ : ByteArray)) := ⟨fun _ _ => trivial, ls.map encStr, by rw [List.length_map, hl]; exact h, ⟨by simp [Kd.string, Kd.scalar], fun j p hj => by
    show ((ls.map encStr).drop (j * 1)).take 1 = [.string p]
    obtain ⟨hjl, hp⟩ := List.getElem?_eq_some_iff.1 hj
    have hjl' : j < ls.length := by simpa using hjl
    rw [Nat.mul_one, List.drop_eq_getElem_cons (by simpa using hjl')]
    simp at hp
    simp [← hp, encStr]⟩⟩
  obtain ⟨A, c, hv, hle, hC⟩ := Kd.R_reads hR
  rw [List.length_map, hl] at hv hle hC
  exact ⟨A, c, hv, hle, hC⟩

set_option maxRecDepth 100000 in
set_option maxHeartbeats 2000000 in
theorem vars_calls (t : S26) (w : World) (A3 : Option Addr) (c3 : Nat) (A4 : Option Addr) (c4 : Nat) (g4 : k26.C w A4 t.f4.length t.f4) (hbig : (preT t).length ≤ 4294967296) :
    Calls Try.prog 33 #[Value.agg #[.int .i64 t.f0, .int .i64 t.f1, .string t.f2, .slice A3 t.f3.length c3, .slice A4 t.f4.length c4]] w fun e w' => (∃ A c, e = .returned (.slice A (sortedVars t).length c) ∧ (sortedVars t).length ≤ c ∧ Kd.string.C w' A (sortedVars t).length ((sortedVars t).map fun l => ⟨l.toArray⟩)) ∧ Below w.heap.size w w' := by
  have HF := Aside0.mk (Kd.C_F k26_heap g4)
  have HBIG := Aside0.mk hbig
  clear g4 hbig
  refine (callsIn_wide (n := 3)).1 ?_
  refine callsIn_of_wp_marks Try.func33 rfl trivial ?_ rfl
  simp only [Try.ntmps33, List.size_toArray, List.length_cons, List.length_nil, Nat.reduceAdd, Nat.reduceSub, Array.replicate_succ, Array.replicate_zero, List.push_toArray, List.append_toArray, List.nil_append, List.cons_append]
  gi_wp2_with ((try first | refine ⟨trivial, fun h => (by cases h), ?_⟩ | refine ⟨trivial, ?_⟩); gi_at_call 68; refine (nodes_in _ _ ⟨_, _, _, _, _, rfl⟩ _).mono ?_; rintro e w' ⟨rfl, rfl⟩)
  have hbt := blk_new (((w.alloc (.cells #[.int .i64 t.f0, .int .i64 t.f1, .string t.f2, .slice A3 t.f3.length c3, .slice A4 t.f4.length c4] 26)).alloc (.cells #[.slice none 0 0] 23))) (.cells #[.int .i64 t.f0, .int .i64 t.f1, .string t.f2, .slice A3 t.f3.length c3, .slice A4 t.f4.length c4] 26)
  have hbo := blk_alloc (blk_new ((w.alloc (.cells #[.int .i64 t.f0, .int .i64 t.f1, .string t.f2, .slice A3 t.f3.length c3, .slice A4 t.f4.length c4] 26))) (.cells #[.slice none 0 0] 23)) (.cells #[.int .i64 t.f0, .int .i64 t.f1, .string t.f2, .slice A3 t.f3.length c3, .slice A4 t.f4.length c4] 26)
  simp only [World.size_alloc] at hbt hbo
  have hb0 : Below w.heap.size w ((((w.alloc (.cells #[.int .i64 t.f0, .int .i64 t.f1, .string t.f2, .slice A3 t.f3.length c3, .slice A4 t.f4.length c4] 26)).alloc (.cells #[.slice none 0 0] 23)).alloc (.cells #[.int .i64 t.f0, .int .i64 t.f1, .string t.f2, .slice A3 t.f3.length c3, .slice A4 t.f4.length c4] 26))) := below_alloc (below_alloc (below_alloc (Below.refl _ _) _) _) _
  obtain ⟨W0, hW0⟩ : ∃ W0, (((w.alloc (.cells #[.int .i64 t.f0, .int .i64 t.f1, .string t.f2, .slice A3 t.f3.length c3, .slice A4 t.f4.length c4] 26)).alloc (.cells #[.slice none 0 0] 23)).alloc (.cells #[.int .i64 t.f0, .int .i64 t.f1, .string t.f2, .slice A3 t.f3.length c3, .slice A4 t.f4.length c4] 26)) = W0 := ⟨_, rfl⟩
  have hsz : W0.heap.size = w.heap.size + 3 := by rw [← hW0]; simp
  rw [hW0] at hbt hbo hb0 ⊢
  refine wpIn_rangeFunc_ownH rfl (by omega) (gf := 100) (lb := #[.pointer (some ⟨w.heap.size + 1 + 1, 0, none⟩)]) rfl trivial (enters_of Try.func100 (by kernel_rfl) rfl)
    (nodes_stops _ t w.heap.size (w.heap.size + 1 + 1) A3 c3 A4 c4 W0 (by omega) hbt (Kd.F_step HF.out (fun b hb _ => hb0.block b hb))) (fun h k => h.trans k) (fun W l o o' hl h hc hw => kt_b (by omega) W l o o' hl h hc hw) (Below.refl _ _) (fun _ => rfl)
    (VarsInv w) (fun _ _ _ => False) (varsInv_own w _ (by omega)) (fun _ _ _ _ _ hs _ _ => hs) ⟨⟨_, hbo, World.ownsRow_nil _ _ _ _, by simp [namesV, namesL]⟩, hb0, by omega⟩
    (fun x a' W => ∃ Bx, W0.heap.size ≤ Bx ∧ W.heap[Bx]? = some (.cells #[.int .i64 x.x.f0, .int .i64 x.x.f1, .string x.x.f2, .slice x.A3 x.x.f3.length x.c3, .slice x.A4 x.x.f4.length x.c4] 26 (0, 0)) ∧ a' = { tmps := #[Value.agg #[.int .i64 t.f0, .int .i64 t.f1, .string t.f2, .slice A3 t.f3.length c3, .slice A4 t.f4.length c4], .pointer (some ⟨w.heap.size, 0, none⟩), .slice none 0 0, .pointer (some ⟨w.heap.size + 1, 0, none⟩), .pointer (some ⟨Bx, 0, none⟩), Value.agg #[.int .i64 t.f0, .int .i64 t.f1, .string t.f2, .slice A3 t.f3.length c3, .slice A4 t.f4.length c4], .func (.func 100) #[] #[.pointer (some ⟨w.heap.size + 1 + 1, 0, none⟩)], x.enc, undef, undef, undef, undef, undef, undef, undef, undef, undef, undef, undef, undef], defers := [] }) ?hAx ?assign ?body ?done ?stop
  case hAx =>
    rintro x a' _ A B row ⟨Bx, h1, h2, h3⟩ hg hr
    refine ⟨Bx, h1, blk_grown h2 hg (fun e => ?_), h3⟩
    obtain ⟨_, o, ho, hc⟩ := hr _ e.symm
    rw [ho] at h2
    cases h2
    simp [Obj.isCells] at hc
  case assign =>
    intro l pre x W K hi hK
    have hi5 := hi.2.2
    have HI := Aside0.mk hi
    clear hi
    simp only [NV.enc_eq] at hK ⊢
    gi_wp2
    refine hK _ _ ((KeepsOthers.alloc _ _).from _) ((KT.refl _ _).alloc (by omega) _) ?_ ⟨W.heap.size, by omega, blk_new _ _, by simp⟩
    exact varsInv_own w w.heap.size (Nat.le_refl _) _ _ _ none HI.out (World.grownBy_alloc _ _ none) (fun r e => by cases e)
  case body =>
    rintro l pre x a' W hl _ ⟨⟨v, hv, hrow, hnil⟩, hB, h5⟩ ⟨Bx, hB1, hB2, rfl⟩ hlt
    have hcx0 := blk_cell hB2 0
    have hcx2 := blk_cell hB2 2
    simp at hcx0 hcx2
    have HX := Aside0.mk hB2
    have HHB := Aside0.mk hB
    have HNIL := Aside0.mk hnil
    clear hB2 hnil
    simp only [NV.enc_eq]
    by_cases he : x.x.f0 = 6
    · have he' : (x.x.f0 == 6) = true := beq_iff_eq.2 he
      have HE := Aside0.mk he
      have hle := namesV_le pre
      have hbg := HBIG.out
      have hvc := hv.cell
      clear he
      obtain ⟨i0, hi, hz0, hz1, hz2⟩ := info_parts info9
      obtain ⟨nk, hnk⟩ : ∃ nk, (namesV pre).length = nk := ⟨_, rfl⟩
      rw [hnk] at hrow hle
      have HNK := Aside0.mk hnk
      clear hnk
      gi_wp2_with ((gi_at_builtin; refine wpListIn_append_own _ rfl _ _ 23 rfl w.heap.size 9 i0 (.string ⟨#[]⟩) 1 16 Try.underlying23 hi hz0 hz1 hz2 rfl (by decide) _ _ _ rfl (hrow.alloc _) ⟨W.heap.size, 0, none⟩ 1 1 [.string x.x.f2] rfl rfl (cell_one_new _ _ _) (by simp [Value.oneCell']) (by simp [maxLen]; omega) (by omega) (by have := hB.size; simp; omega) ?_; intro v' w1 hown' hgrow _; obtain ⟨g', cap', rfl⟩ := ownsRow_succ hown'; obtain ⟨hv1, hv2, hr2, hk2, hb2⟩ := hv.appended (by decide) hrow hB.size (Nat.le_succ _) hown' hgrow; have hc1 := hv1.cell; have hf1 := hv1.frozen))
      refine ⟨hk2.from _, ⟨hb2, fun b c hb => ?_⟩, ⟨⟨_, hv2, ?_, ?_⟩, HHB.out.trans hb2, ?_⟩⟩
      · have hne : some b ≠ v.ownBlock := fun e => by
          obtain ⟨cells, hc⟩ := own_typed hrow b e.symm
          rw [hc] at hb; cases hb
        have hne2 : b ≠ w.heap.size + 1 := fun e => by
          rw [e, show W.heap[w.heap.size + 1]? = _ from hv] at hb; cases hb
        exact (Below.heap_setCell _ _ _ _ hne2).trans (blk_grown (blk_alloc hb _) hgrow hne)
      · rw [namesV_yes _ _ HE.out, List.length_append, List.map_append, HNK.out]; exact hr2
      · rw [namesV_yes _ _ HE.out]; simp
      · have h_ := hk2.size; omega
    · have he' : (x.x.f0 == 6) = false := beq_eq_false_iff_ne.2 he
      have HE := Aside0.mk he
      have HR := Aside0.mk (And.intro hv hrow)
      clear he hv hrow
      gi_wp2
      refine ⟨KeepsFrom.refl _ _, KT.refl _ _, ⟨v, HR.out.1, ?_, ?_⟩, HHB.out, h5⟩
      · rw [namesV_no _ _ HE.out]; exact HR.out.2
      · rw [namesV_no _ _ HE.out]; exact HNIL.out
  case stop =>
    rintro D c pre W _ _ h _
    exact h.elim
  case done =>
    rintro D ys W hD hy ⟨⟨v, hv, hrow, hnil⟩, hB, h5⟩ hK
    have hvc := hv.cell
    have hny : namesV ys = namesL (preT t) := by unfold namesV; rw [hy]
    rw [hny] at hrow hnil
    have HV := Aside0.mk hv
    have HHB := Aside0.mk hB
    have HK := Aside0.mk hK
    clear hy hny hv hB hK
    by_cases hemp : namesL (preT t) = []
    · have hv0 : v = .slice none 0 0 := hnil.2 hemp
      subst hv0
      have HE := Aside0.mk (show sortedVars t = [] from by unfold sortedVars; rw [hemp]; simp only [bl, List.map_nil, List.mergeSort_nil]; rfl)
      clear hnil hemp hrow
      gi_wp2_with (first | ((try first | refine ⟨trivial, fun h => (by cases h), ?_⟩ | refine ⟨trivial, ?_⟩); gi_at_call 69; refine (callsIn_wide.2 (Try.slices_Sort_string_none none 0 W)).mono ?_; rintro e w' ⟨rfl, rfl⟩) | ((try first | refine ⟨trivial, fun h => (by cases h), ?_⟩ | refine ⟨trivial, ?_⟩); gi_at_call 70; refine (callsIn_wide.2 (Try.slices_Compact_string_empty none 0 _)).mono ?_; rintro e w' ⟨rfl, rfl⟩))
      refine ⟨by simp, .inl ⟨_, _, rfl, run_takeDeferred HK.out, ?_⟩⟩
      refine ⟨_, results_tmp rfl _ _ _, ⟨none, 0, ?_, ?_, ?_⟩, HHB.out.trans (belowK_b (w := w) (Nat.le_refl _) _ D _ _ (by omega) HK.out rfl rfl)⟩
      · rw [HE.out]; rfl
      · rw [HE.out]; exact Nat.le_refl _
      · rw [HE.out]; exact Kd.C_nil _ _
    · rw [← Lib.map_encStr] at hrow
      have hnn : v ≠ .slice none 0 0 := fun h => hemp (hnil.1 h)
      obtain ⟨g, cap, rfl, hbg, hgl, hncap, hcm, hlen, hH⟩ := Lib.holds_of_ownsRow hrow hnn
      obtain ⟨ss, hss⟩ : ∃ ss, (namesL (preT t)).map (·.data.toList) = ss := ⟨_, rfl⟩
      obtain ⟨n, hn⟩ : ∃ n, (namesL (preT t)).length = n := ⟨_, rfl⟩
      have HS := Aside0.mk (show sortedVars t = Lib.compact (ss.mergeSort fun x y => decide (x ≤ y)) from by unfold sortedVars bl; rw [hss])
      have hn4 : n ≤ 4294967296 := by rw [← hn]; exact Nat.le_trans (namesL_le _) HBIG.out
      rw [hss, hn] at hrow
      rw [hss] at hH
      rw [hss, hn] at hlen
      rw [hn] at hncap
      have hsort := Try.slices_Sort_string g 0 cap ss W hH hgl (by omega)
      have hl2 : (ss.mergeSort fun x y => decide (x ≤ y)).length = ss.length := List.length_mergeSort ss
      have hcomp := fun nn os => Try.slices_Compact_string g 0 cap (ss.mergeSort fun x y => decide (x ≤ y)) (grow (putRow encStr (Sort.ahead W nn) g 0 (ss.mergeSort fun x y => decide (x ≤ y)).toArray) os)
         (holds_grow encStr _ os g 0 _ (by simpa [putRow, mapBlock, Sort.ahead] using hgl) (holds_putRow encStr _ g 0 _ _ (holds_ahead encStr W nn g 0 _ hH) (by simp))) (by rw [hl2]; omega) (by rw [hl2]; omega)
      rw [hlen] at hsort
      rw [hlen] at hl2
      rw [hl2] at hcomp
      have HSO := Aside0.mk hsort
      have HCO := Aside0.mk hcomp
      have HOW := Aside0.mk (show W.ownsRow w.heap.size 9 1 (.slice (some ⟨g, 0, none⟩) n cap) n (ss.map encStr) from by rw [hn] at *; exact hrow)
      have HLE := Aside0.mk hlen
      rw [hn] at hvc HV
      have hgb : g ≠ w.heap.size + 1 := fun e => by
        obtain ⟨cells, hc⟩ := own_typed HOW.out g (by simp [Value.ownBlock])
        rw [e, show W.heap[w.heap.size + 1]? = _ from HV.out] at hc; cases hc
      clear hrow hnil hnn hH hss hn hsort hcomp hl2 hlen hemp
      gi_wp2_with fail
      (try first | refine ⟨trivial, fun h => (by cases h), ?_⟩ | refine ⟨trivial, ?_⟩)
      refine (callsIn_wide.2 HSO.out).mono ?_
      rintro e w2 ⟨rfl, nn, os, hw2⟩
      have HC2 := Aside0.mk (HCO.out nn os)
      rw [← hw2] at HC2
      have hvc2 : w2.cell? ⟨w.heap.size + 1, 0, none⟩ = some (.slice (some ⟨g, 0, none⟩) n cap) := by rw [hw2]; exact (HV.out.kept (grownBy_sorted _) (fun e => hgb (Option.some.inj e).symm)).cell
      have HW2 := Aside0.mk hw2
      clear hw2
      gi_wp2_with fail
      (try first | refine ⟨trivial, fun h => (by cases h), ?_⟩ | refine ⟨trivial, ?_⟩)
      refine (callsIn_wide.2 HC2.out).mono ?_
      rintro e w3 ⟨rfl, q, hw3⟩
      have HW3 := Aside0.mk hw3
      clear hw3
      gi_wp2
      have hg2 : W.grownBy w2 (some g) := by rw [HW2.out]; exact grownBy_sorted _
      have hg3 : w2.grownBy w3 (some g) := by rw [HW3.out]; exact grownBy_putRow _ _ _
      have hgD : some D ≠ some g := fun e => by
        obtain ⟨cells, hc⟩ := own_typed HOW.out g (by simp [Value.ownBlock])
        cases e; rw [HK.out] at hc; cases hc
      have hK3 : w3.heap[D]? = some (.deferred (some [])) := blk_grown (blk_grown HK.out hg2 hgD) hg3 hgD
      obtain ⟨h3o, h3b⟩ := vars_left (w := w) (w1 := W) (nn := nn) (os := os) (q := q) HOW.out HHB.out hbg HLE.out
      rw [← HW2.out, ← HW3.out] at h3o h3b
      refine ⟨by simp, .inl ⟨_, _, rfl, run_takeDeferred hK3, ?_⟩⟩
      have h4 := ownsRow_putObj h3o (.deferred none) hK3 rfl
      obtain ⟨A, c, hv, hle, hC⟩ := c_of_own h4
      refine ⟨_, results_tmp rfl _ _ _, ⟨A, c, ?_, ?_, ?_⟩, h3b.trans (belowK_b (w := w) (Nat.le_refl _) _ D _ _ (by omega) hK3 rfl rfl)⟩
      · rw [HS.out]; exact congrArg Ending.returned hv
      · rw [HS.out]; exact hle
      · rw [HS.out]; exact hC
end Go.Proofs.Ytkeeknlfommieaa.PF
namespace Go.Proofs.Ytkeeknlfommieaa.PF
open Go.RowKit Go.Shelf Go.Sort Go.Proofs.YtkeeknlfommieaaW.PrintWords Go.Proofs.YtkeeknlfommieaaW.PrintLast Go.Proofs.YtkeeknlfommieaaW.PrintMore

theorem info89 : (Try.prog.info? 89).map (fun i => (i.zero, i.size, i.bytes)) = some (some (.agg #[(.string ⟨#[]⟩), (.int .i64 0), (.int .i64 0), (.string ⟨#[]⟩), (.slice none 0 0), (.slice none 0 0)]), 6, 96) := by kernel_rfl

/-- The fields that two lists of the same length make, as their cells hold them. -/
structure Fields (w : World) (A B : Option Addr) (ls : List ByteArray) (ar : List S26) (es : List FE) : Prop where
  l : es.map FE.l = ls
  x : es.map (fun e => e.v.x) = ar
  rt : ∀ e ∈ es, RT w e.v.enc e.v.x
  cl : ∀ (i : Nat) (hi : i < es.length), ∃ ad bd, A = some ad ∧ B = some bd ∧ w.cell? (ad.add i) = some (.string es[i].l) ∧ w.cell? (bd.add (i * 5)) = some (.int .i64 es[i].v.x.f0) ∧ w.cell? ⟨(bd.add (i * 5)).block, (bd.add (i * 5)).off + 1, none⟩ = some (.int .i64 es[i].v.x.f1) ∧ w.cell? ⟨(bd.add (i * 5)).block, (bd.add (i * 5)).off + 2, none⟩ = some (.string es[i].v.x.f2) ∧ w.cell? ⟨(bd.add (i * 5)).block, (bd.add (i * 5)).off + 3, none⟩ = some (.slice es[i].v.A3 es[i].v.x.f3.length es[i].v.c3) ∧ w.cell? ⟨(bd.add (i * 5)).block, (bd.add (i * 5)).off + 4, none⟩ = some (.slice es[i].v.A4 es[i].v.x.f4.length es[i].v.c4)
theorem fields_of {w : World} {A B : Option Addr} {ls : List ByteArray} {ar : List S26} (h3 : Kd.string.C w A ls.length ls) (h4 : k26.C w B ar.length ar) (hl : ls.length = ar.length) : ∃ es, Fields w A B ls ar es := by
  have hf : ∀ i : Fin ar.length, ∃ v : NV, v.x = ar[i.val] ∧ RT w v.enc v.x ∧ ∃ bd, B = some bd ∧ w.cell? (bd.add (i.val * 5)) = some (.int .i64 v.x.f0) ∧ w.cell? ⟨(bd.add (i.val * 5)).block, (bd.add (i.val * 5)).off + 1, none⟩ = some (.int .i64 v.x.f1) ∧ w.cell? ⟨(bd.add (i.val * 5)).block, (bd.add (i.val * 5)).off + 2, none⟩ = some (.string v.x.f2) ∧ w.cell? ⟨(bd.add (i.val * 5)).block, (bd.add (i.val * 5)).off + 3, none⟩ = some (.slice v.A3 v.x.f3.length v.c3) ∧ w.cell? ⟨(bd.add (i.val * 5)).block, (bd.add (i.val * 5)).off + 4, none⟩ = some (.slice v.A4 v.x.f4.length v.c4) := by
    intro i
    obtain ⟨ad, A3, c3, A4, c4, e, h0, h1, h2, h3', h4', l3, g3, l4, g4⟩ := el26 h4 i.val i.isLt
    exact ⟨⟨ar[i.val], A3, c3, A4, c4⟩, rfl, ⟨A3, c3, A4, c4, rfl, l3, g3, l4, g4⟩, ad, e, h0, h1, h2, h3', h4'⟩
  have hf2 := fun i => Classical.choose_spec (hf i)
  obtain ⟨f, hff⟩ : ∃ f : Fin ar.length → NV, ∀ i, f i = Classical.choose (hf i) := ⟨_, fun _ => rfl⟩
  simp only [← hff] at hf2
  refine ⟨List.ofFn fun i : Fin ar.length => ⟨ls[i.val]'(by omega), f i⟩, ?_, ?_, ?_, ?_⟩
  · apply List.ext_getElem
    · simp [hl]
    · intro i h1 h2; simp
  · apply List.ext_getElem
    · simp
    · intro i h1 h2; simp [(hf2 _).1]
  · intro e he
    obtain ⟨i, rfl⟩ := List.mem_ofFn.1 he
    exact (hf2 i).2.1
  · intro i hi
    have hi' : i < ar.length := by simpa using hi
    obtain ⟨ad, e1, h1⟩ := elS h3 i (by omega)
    obtain ⟨bd, e2, h2⟩ := (hf2 ⟨i, hi'⟩).2.2
    refine ⟨ad, bd, e1, e2, ?_, ?_⟩
    · simpa using h1
    · simpa using h2
theorem Fields.len {w : World} {A B : Option Addr} {ls : List ByteArray} {ar : List S26} {es : List FE} (h : Fields w A B ls ar es) : es.length = ls.length ∧ es.length = ar.length := by
  rw [← h.l, ← h.x]; simp

theorem flat_get (es : List FE) : ∀ t, t < es.length * 6 → (es.flatMap FE.enc)[t]! = (FE.enc (es.toArray[t / 6]!))[t % 6]! := by
  induction es with
  | nil => intro t h; simp at h
  | cons e es ih =>
    intro t h
    rw [List.flatMap_cons]
    by_cases ht : t < 6
    · rw [show t / 6 = 0 by omega, show t % 6 = t by omega]
      simp only [getElem!_def, List.getElem?_append_left (show t < e.enc.length from ht)]
      simp
    · obtain ⟨s, rfl⟩ : ∃ s, t = s + 6 := ⟨t - 6, by omega⟩
      have := ih s (by simp at h; omega)
      rw [show (s + 6) / 6 = s / 6 + 1 by omega, show (s + 6) % 6 = s % 6 by omega]
      simp only [getElem!_def] at this ⊢
      rw [List.getElem?_append_right (show e.enc.length ≤ s + 6 by show 6 ≤ s + 6; omega), show s + 6 - e.enc.length = s from Nat.add_sub_cancel s 6, this]
      simp
theorem own_holds {W : World} {base g n cap : Nat} {es : List FE} (h : W.ownsRow base 89 6 (.slice (some ⟨g, 0, none⟩) n cap) n (es.flatMap FE.enc)) (hn : es.length = n) : HoldsK FE.enc 6 W g 0 es.toArray ∧ g < W.heap.size := by
  refine ⟨?_, (h.lt g rfl).2⟩
  intro j hj
  have hj' : j < n * 6 := by simpa [hn] using hj
  rw [Nat.zero_add, h.cellAt j hj', h.frozenAt j]
  refine ⟨?_, rfl⟩
  rw [get_flatK _ _ _ _ (by simpa [hn] using hj'), ← flat_get es j (by omega)]
  have hl : j < (es.flatMap FE.enc).length := by rw [h.1]; exact hj'
  rw [List.getElem?_eq_getElem hl]
  show some _ = some ((es.flatMap FE.enc)[j]!)
  rw [getElem!_pos (es.flatMap FE.enc) j hl]
theorem grownBy_sortK {α : Type} [Inhabited α] {enc : α → List Value} {kk : Nat} (w : World) (q g : Nat) (d : Array α) (os : Array Obj) : w.grownBy (sortWorldK enc kk w g 0 q d os) (some g) := by
  unfold sortWorldK putRowK
  refine ⟨rfl, rfl, rfl, by simp [putRow, mapBlock, Sort.ahead, grow], fun k hk hne => ?_⟩
  have : g ≠ k := fun e => hne (by rw [e])
  have hk' : k < (putRow id (Sort.ahead w q) g 0 (flatK enc kk d)).heap.size := by simpa [putRow, mapBlock, Sort.ahead] using hk
  simp only [grow]
  rw [Array.getElem?_append_left hk']
  simp [putRow, mapBlock, Sort.ahead, Array.getElem?_modify, this]
theorem cS_of_own {w : World} {base n : Nat} {v : Value} {ls : List ByteArray} (h : w.ownsRow base 9 1 v n (ls.map Value.string)) : ∃ A c, v = .slice A n c ∧ n ≤ c ∧ Kd.string.C w A n ls := by
  have := c_of_own (ls := ls.map fun s => s.data.toList) (by rw [List.map_map]; exact h)
  rw [List.map_map] at this
  obtain ⟨A, c, e, hl, hC⟩ := this
  refine ⟨A, c, e, hl, ?_⟩
  have he : (List.map ((fun l => (⟨l.toArray⟩ : ByteArray)) ∘ fun s => s.data.toList) ls) = ls := by
    conv => rhs; rw [← List.map_id ls]
    exact List.map_congr_left fun s _ => rfl
  rwa [he] at hC

def FE.enc5 (e : FE) : List Value := [.int .i64 e.v.x.f0, .int .i64 e.v.x.f1, .string e.v.x.f2, .slice e.v.A3 e.v.x.f3.length e.v.c3, .slice e.v.A4 e.v.x.f4.length e.v.c4]
theorem flat5_get (es : List FE) : ∀ (j : Nat) (hj : j < es.length) (i : Nat), i < 5 → (es.flatMap FE.enc5)[j * 5 + i]? = (es[j].enc5)[i]? := by
  induction es with
  | nil => intro j h; simp at h
  | cons e es ih =>
    intro j hj i hi
    rw [List.flatMap_cons]
    cases j with
    | zero => rw [List.getElem?_append_left (by show 0 * 5 + i < 5; omega)]; simp
    | succ j =>
      rw [List.getElem?_append_right (by show 5 ≤ (j + 1) * 5 + i; omega), show (j + 1) * 5 + i - e.enc5.length = j * 5 + i by show (j + 1) * 5 + i - 5 = j * 5 + i; omega]
      simpa using ih j (by simpa using hj) i hi
theorem c26_of_own {w : World} {base n : Nat} {v : Value} {es : List FE} (h : w.ownsRow base 26 5 v n (es.flatMap FE.enc5)) (hn : es.length = n) (hmax : n ≤ 9223372036854775807) (hrt : ∀ e ∈ es, RT w e.v.enc e.v.x) : ∃ A c, v = .slice A n c ∧ n ≤ c ∧ k26.C w A n (es.map fun e => e.v.x) := by
  rcases h.2 with ⟨rfl, h0⟩ | ⟨g, cap, cur, rfl, _, hg, h1, h2, h3, h4⟩
  · subst h0
    obtain rfl : es = [] := List.eq_nil_of_length_eq_zero hn
    exact ⟨none, 0, rfl, Nat.le_refl _, Kd.C_nil _ _⟩
  · refine ⟨_, cap, rfl, h1, by simp [hn], hmax, fun _ => ⟨_, rfl, fun j p hj => ?_⟩⟩
    obtain ⟨hjl, hp⟩ := List.getElem?_eq_some_iff.1 hj
    have hjl' : j < es.length := by simpa using hjl
    rw [List.getElem_map] at hp
    subst hp
    obtain ⟨A3, c3, A4, c4, e, l3, g3, l4, g4⟩ := hrt es[j] (List.getElem_mem hjl')
    simp [NV.enc] at e
    obtain ⟨⟨rfl, rfl⟩, rfl, rfl⟩ := e
    refine ⟨es[j].enc5, rfl, k26_mk w es[j].v.x l3 g3 l4 g4, fun i u hu => ?_⟩
    have hi : i < 5 := by have := (List.getElem?_eq_some_iff.1 hu).1; exact this
    rw [show (⟨g, 0, none⟩ : Addr).add (j * k26.sz + i) = ⟨g, j * 5 + i, none⟩ from add_plain g _]
    rw [h.cellAt (j * 5 + i) (by omega), flat5_get es j hjl' i hi]
    exact hu
theorem row_ne {w : World} {b b' : Nat} {e e' : TypeId} {s s' n n' : Nat} {v v' : Value} {xs xs' : List Value} (h : w.ownsRow b e s v n xs) (h' : w.ownsRow b' e' s' v' n' xs') (hne : e ≠ e') : v.ownBlock = none ∨ v.ownBlock ≠ v'.ownBlock := by
  rcases hv : v.ownBlock with _ | k
  · exact .inl rfl
  · refine .inr fun e => ?_
    obtain ⟨c, hc⟩ := own_typed h k hv
    obtain ⟨c', hc'⟩ := own_typed h' k e.symm
    rw [hc] at hc'
    injection hc' with hc'
    injection hc' with _ h2 _
    exact hne h2

/-- What the sort leaves: a row of fields at A, in the order of their labels. -/
structure Row (W W2 : World) (base : Nat) (A : Option Addr) (es es' : List FE) : Prop where
  low : Below base W W2
  perm : es'.Perm es
  sorted : es'.Pairwise fun a b => ¬ b.l.data.toList < a.l.data.toList
  cl : ∀ (i : Nat) (hi : i < es'.length), ∃ ad, A = some ad ∧ W2.cell? (ad.add (i * 6)) = some (.string es'[i].l) ∧ W2.cell? ⟨(ad.add (i * 6)).block, (ad.add (i * 6)).off + 1, none⟩ = some (.int .i64 es'[i].v.x.f0) ∧ W2.cell? ⟨(ad.add (i * 6)).block, (ad.add (i * 6)).off + 2, none⟩ = some (.int .i64 es'[i].v.x.f1) ∧ W2.cell? ⟨(ad.add (i * 6)).block, (ad.add (i * 6)).off + 3, none⟩ = some (.string es'[i].v.x.f2) ∧ W2.cell? ⟨(ad.add (i * 6)).block, (ad.add (i * 6)).off + 4, none⟩ = some (.slice es'[i].v.A3 es'[i].v.x.f3.length es'[i].v.c3) ∧ W2.cell? ⟨(ad.add (i * 6)).block, (ad.add (i * 6)).off + 5, none⟩ = some (.slice es'[i].v.A4 es'[i].v.x.f4.length es'[i].v.c4)
theorem add_off (g m c : Nat) : (⟨((⟨g, 0, none⟩ : Addr).add m).block, ((⟨g, 0, none⟩ : Addr).add m).off + c, none⟩ : Addr) = ⟨g, 0 + m + c, none⟩ := by rw [add_plain]; simp
theorem sort_any {hi : Nat} (hs : SortOK hi) {W : World} {base n : Nat} {v : Value} {es : List FE} (hO : W.ownsRow base 89 6 v n (es.flatMap FE.enc)) (hlen : es.length = n) (hn : n ≤ hi) (hnil : n = 0 → v = .slice none 0 0) (hbase : base ≤ W.heap.size) :
    ∃ A cap, v = .slice A n cap ∧ Calls Try.prog 74 #[.slice A n cap, .func (.func 75) #[] #[]] W fun e W2 => e = .returned (.tuple #[]) ∧ ∃ es', Row W W2 base A es es' := by
  by_cases h0 : n = 0
  · obtain rfl : es = [] := List.eq_nil_of_length_eq_zero (by omega)
    subst h0
    refine ⟨none, 0, hnil rfl, (sort_none 0 W).mono ?_⟩
    rintro e w' ⟨rfl, rfl⟩
    exact ⟨rfl, [], Below.refl _ _, List.Perm.refl _, List.Pairwise.nil, fun i hi => by simp at hi⟩
  · rcases hO.2 with ⟨_, h⟩ | ⟨g, cap, cur, rfl, hg, _⟩
    · exact absurd h h0
    · obtain ⟨hH, hlt⟩ := own_holds hO hlen
      have hd : es.toArray.size = n := by simp [hlen]
      have hc := hs g cap es.toArray W hH hlt (by omega) (by omega)
      rw [hd] at hc
      refine ⟨some ⟨g, 0, none⟩, cap, rfl, hc.mono ?_⟩
      rintro e w' ⟨rfl, d', q, os, hP, hS, rfl⟩
      have hsz : d'.size = n := by rw [hP.1]; exact hd
      refine ⟨rfl, d'.toList, ?_, ?_, ?_, ?_⟩
      · exact (Below.refl base W).grown (grownBy_sortK _ _ _ _ _) hbase (fun j hj => by cases hj; exact hg)
      · have h1 := hP.2.2
        rw [Array.extract_eq_self_of_le (by omega), Array.extract_eq_self_of_le (by omega)] at h1
        exact h1
      · rw [List.pairwise_iff_getElem]
        intro i j hi hj hij
        have h1 := hS i j (Nat.zero_le _) hij (by simpa [hsz, hlen] using hj)
        rw [ltcf, decide_eq_false_iff_not] at h1
        have hi' : i < d'.size := by simpa using hi
        have hj' : j < d'.size := by simpa using hj
        simpa [getElem!_pos d' i hi', getElem!_pos d' j hj'] using h1
      · intro i hi
        have hi' : i < d'.size := by simpa using hi
        have hH2 := holdsK_sortWorldK FE.enc 6 W g 0 q es.toArray d' os hlt hH (by rw [hsz, hd])
        have hcl : ∀ c, c < 6 → (sortWorldK FE.enc 6 W g 0 q d' os).cell? ⟨g, 0 + i * 6 + c, none⟩ = some (FE.enc d'[i]!)[c]! := fun c hc => (hH2.cell hi' hc).1
        have he : d'[i]! = d'.toList[i] := by simp [getElem!_pos d' i hi']
        rw [he] at hcl
        refine ⟨_, rfl, ?_, ?_, ?_, ?_, ?_, ?_⟩
        · have h_ := hcl 0 (by omega); rw [show 0 + i * 6 + 0 = i * 6 by omega] at h_; rw [add_plain]; exact h_
        · rw [add_off]; exact hcl 1 (by omega)
        · rw [add_off]; exact hcl 2 (by omega)
        · rw [add_off]; exact hcl 3 (by omega)
        · rw [add_off]; exact hcl 4 (by omega)
        · rw [add_off]; exact hcl 5 (by omega)

theorem grownBy_set (w : World) (g i : Nat) (u : Value) : w.grownBy (w.setCell ⟨g, i, none⟩ u) (some g) :=
  ⟨rfl, rfl, rfl, by simp, fun k _ hne => Below.heap_setCell w ⟨g, i, none⟩ u k (fun e => hne (by rw [e]))⟩
theorem own_far {w : World} {T : Nat} {e : TypeId} {size n : Nat} {v : Value} {xs : List Value} (h : w.ownsRow (T + 1) e size v n xs) : v.ownBlock = none ∨ v.ownBlock ≠ some T := by
  rcases hv : v.ownBlock with _ | k
  · exact .inl rfl
  · refine .inr fun e => ?_
    injection e with e
    have := (h.lt k hv).1
    omega
/-- A round of the record's second loop: both rows one longer. -/
theorem round2 {W2 wr w1 w2 : World} {T k g1 cap1 g2 cap2 : Nat} {vL vA : Value} {xl xa nl na : List Value} {o : Obj} {a b c : Value}
    (HB2 : Below T W2 wr) (HSZ : T + 1 ≤ wr.heap.size) (HTB : wr.heap[T]? = some (.cells #[a, b, c, vL, vA] 26 (0, 0))) (HVL : wr.ownsRow (T + 1) 9 1 vL k xl) (HVA : wr.ownsRow (T + 1) 26 5 vA k xa)
    (HO1 : w1.ownsRow (T + 1) 9 1 (.slice (some ⟨g1, 0, none⟩) (k + 1) cap1) (k + 1) nl) (HB1 : Below (T + 1) (wr.alloc o) w1) (HG1 : (wr.alloc o).grownBy w1 vL.ownBlock)
    (HO2 : w2.ownsRow (T + 1) 26 5 (.slice (some ⟨g2, 0, none⟩) (k + 1) cap2) (k + 1) na) (HB3 : Below (T + 1) (w1.setCell ⟨T, 3, none⟩ (.slice (some ⟨g1, 0, none⟩) (k + 1) cap1)) w2) (HG2 : (w1.setCell ⟨T, 3, none⟩ (.slice (some ⟨g1, 0, none⟩) (k + 1) cap1)).grownBy w2 vA.ownBlock) :
    (w2.setCell ⟨T, 4, none⟩ (.slice (some ⟨g2, 0, none⟩) (k + 1) cap2)).heap[T]? = some (.cells #[a, b, c, .slice (some ⟨g1, 0, none⟩) (k + 1) cap1, .slice (some ⟨g2, 0, none⟩) (k + 1) cap2] 26 (0, 0))
    ∧ (w2.setCell ⟨T, 4, none⟩ (.slice (some ⟨g2, 0, none⟩) (k + 1) cap2)).ownsRow (T + 1) 9 1 (.slice (some ⟨g1, 0, none⟩) (k + 1) cap1) (k + 1) nl
    ∧ (w2.setCell ⟨T, 4, none⟩ (.slice (some ⟨g2, 0, none⟩) (k + 1) cap2)).ownsRow (T + 1) 26 5 (.slice (some ⟨g2, 0, none⟩) (k + 1) cap2) (k + 1) na
    ∧ Below T W2 (w2.setCell ⟨T, 4, none⟩ (.slice (some ⟨g2, 0, none⟩) (k + 1) cap2)) ∧ T + 1 ≤ (w2.setCell ⟨T, 4, none⟩ (.slice (some ⟨g2, 0, none⟩) (k + 1) cap2)).heap.size := by
  have hT1 : w1.heap[T]? = some (.cells #[a, b, c, vL, vA] 26 (0, 0)) := (HB1.block T (Nat.lt_succ_self T)).trans (blk_alloc HTB _)
  have hT2 := blk_put hT1 3 (.slice (some ⟨g1, 0, none⟩) (k + 1) cap1) rfl
  have hT3 := (HB3.block T (Nat.lt_succ_self T)).trans hT2
  have hA1 := ((HVA.alloc o).kept HG1 (row_ne HVA HVL (by decide))).kept (grownBy_set w1 T 3 (.slice (some ⟨g1, 0, none⟩) (k + 1) cap1)) (own_far HVA)
  have hL1 := HO1.kept (grownBy_set w1 T 3 (.slice (some ⟨g1, 0, none⟩) (k + 1) cap1)) (own_far HO1)
  refine ⟨blk_put hT3 4 _ rfl, (hL1.kept HG2 (row_ne hL1 hA1 (by decide))).kept (grownBy_set _ _ _ _) (own_far HO1), HO2.kept (grownBy_set _ _ _ _) (own_far HO2), ?_, ?_⟩
  · exact ((((HB2.alloc (by omega) o).trans (HB1.mono (Nat.le_succ T))).setCell (p := ⟨T, 3, none⟩) (Nat.le_refl T) _).trans (HB3.mono (Nat.le_succ T))).setCell (p := ⟨T, 4, none⟩) (Nat.le_refl T) _
  · have h1 := HB1.size
    have h2 := HB3.size
    simp only [World.size_alloc, World.size_setCell] at h1 h2 ⊢
    omega

theorem grownBy_below {w w1 : World} (h : Below w.heap.size w w1) : w.grownBy w1 none := ⟨h.os, h.tape, h.output, h.size, fun k hk _ => h.block k hk⟩
theorem own_set {w : World} {T g i : Nat} {e : TypeId} {size n : Nat} {v u : Value} {xs : List Value} (h : w.ownsRow (T + 1) e size v n xs) (hg : g ≤ T) : (w.setCell ⟨g, i, none⟩ u).ownsRow (T + 1) e size v n xs :=
  h.kept (grownBy_set w g i u) (by
    rcases hv : v.ownBlock with _ | k
    · exact .inl rfl
    · refine .inr fun e => ?_
      injection e with e
      have := (h.lt k hv).1
      omega)
theorem own_put5 {w : World} {T g : Nat} {e : TypeId} {size n : Nat} {v b0 b1 b2 b3 b4 : Value} {xs : List Value} (h : w.ownsRow (T + 1) e size v n xs) (hg : g ≤ T) :
    (((((w.setCell ⟨g, 0, none⟩ b0).setCell ⟨g, 1, none⟩ b1).setCell ⟨g, 2, none⟩ b2).setCell ⟨g, 3, none⟩ b3).setCell ⟨g, 4, none⟩ b4).ownsRow (T + 1) e size v n xs :=
  own_set (own_set (own_set (own_set (own_set h hg) hg) hg) hg) hg
theorem rec_reads {w w1 : World} {T n c : Nat} {A B : Option Addr} {cb : Nat} {es : List FE} (h1 : w1.ownsRow (T + 1) 9 1 (.slice A n c) n ((es.map FE.l).map Value.string)) (h2 : w1.ownsRow (T + 1) 26 5 (.slice B n cb) n (es.flatMap FE.enc5))
    (hn : es.length = n) (hmax : n ≤ 9223372036854775807) (hrt : ∀ e ∈ es, RT w e.v.enc e.v.x) (hb : Below w.heap.size w w1) :
    RT w1 (.agg #[.int .i64 8, .int .i64 0, .string ⟨#[]⟩, .slice A n c, .slice B n cb]) ⟨8, 0, ⟨#[]⟩, es.map FE.l, es.map fun e => e.v.x⟩ := by
  obtain ⟨A', c', e1, l1, C1⟩ := cS_of_own h1
  obtain ⟨B', d', e2, l2, C2⟩ := c26_of_own h2 hn hmax (fun e he => (hrt e he).below hb)
  cases e1
  cases e2
  subst hn
  refine ⟨A, c, B, cb, ?_, ?_, ?_, ?_, ?_⟩ <;> simp only [List.length_map] <;> assumption

/-- The record of fields, in the order of their labels, where those rise. -/
def recOf (ps : List (ByteArray × S26)) : S26 × Bool := if risingN (bl (ps.map Prod.fst)) = true then (⟨8, 0, ⟨#[]⟩, ps.map Prod.fst, ps.map Prod.snd⟩, true) else (z26, false)
def leP (a b : ByteArray × S26) : Bool := decide (a.1.data.toList ≤ b.1.data.toList)
def recT (ls : List ByteArray) (ar : List S26) : S26 × Bool := if ls.length = ar.length then recOf ((ls.zip ar).mergeSort leP) else (z26, false)
end Go.Proofs.Ytkeeknlfommieaa.PF
namespace Go.Proofs.Ytkeeknlfommieaa.PF

theorem perm_eq {α : Type} {R : α → α → Prop} : ∀ (l m : List α), l.Perm m → l.Pairwise R → m.Pairwise R → (∀ a b, a ∈ l → b ∈ l → R a b → R b a → a = b) → l = m := by
  intro l
  induction l with
  | nil => intro m hp _ _ _; exact (List.nil_perm.1 hp).symm
  | cons a l ih =>
    intro m hp h1 h2 ha
    cases m with
    | nil => exact absurd hp.length_eq (by simp)
    | cons b m =>
      have hab : a = b := by
        by_cases e : a = b
        · exact e
        · have hbl : b ∈ l := by
            have : b ∈ a :: l := hp.symm.subset (List.mem_cons_self)
            rcases List.mem_cons.1 this with h | h
            · exact absurd h.symm e
            · exact h
          have ham : a ∈ m := by
            have : a ∈ b :: m := hp.subset (List.mem_cons_self)
            rcases List.mem_cons.1 this with h | h
            · exact absurd h e
            · exact h
          exact ha a b List.mem_cons_self (List.mem_cons_of_mem _ hbl) ((List.pairwise_cons.1 h1).1 b hbl) ((List.pairwise_cons.1 h2).1 a ham)
      subst hab
      rw [ih m ((List.perm_cons a).1 hp) (List.pairwise_cons.1 h1).2 (List.pairwise_cons.1 h2).2 (fun x y hx hy => ha x y (List.mem_cons_of_mem _ hx) (List.mem_cons_of_mem _ hy))]

def key (a : ByteArray × S26) : List UInt8 := a.1.data.toList
theorem bl_key (ps : List (ByteArray × S26)) : bl (ps.map Prod.fst) = ps.map key := by unfold bl; rw [List.map_map]; rfl
theorem rise_lt {l : List (List UInt8)} (h : risingN l = true) (j : Nat) (hj : j + 1 < l.length) : l[j] < l[j + 1] := by
  have h1 := allUp_iff.1 h (j + 1) hj
  unfold riseAt at h1
  simp only [Bool.and_eq_true, Bool.or_eq_true, decide_eq_true_iff] at h1
  have h2 := h1.2.resolve_left (by omega)
  simp only [Nat.add_sub_cancel, List.getD_eq_getElem?_getD, List.getElem?_eq_getElem hj, List.getElem?_eq_getElem (show j < l.length by omega), Option.getD_some] at h2
  rw [bytesLess_eq, decide_eq_true_iff] at h2
  exact h2
theorem rise_pair {ps : List (ByteArray × S26)} (h : risingN (ps.map key) = true) : ps.Pairwise fun a b => key a < key b := by
  rw [List.pairwise_iff_getElem]
  intro i j hi hj hij
  have hl : (ps.map key).length = ps.length := by simp
  have : ∀ d, i + d + 1 < ps.length → ∀ (hh : i + d + 1 < (ps.map key).length), (ps.map key)[i]'(by omega) < (ps.map key)[i + d + 1] := by
    intro d
    induction d with
    | zero => intro _ hh; exact rise_lt h i (by omega)
    | succ d ih => intro h1 hh; exact List.lt_trans (ih (by omega) (by omega)) (rise_lt h (i + d + 1) (by omega))
  have h2 := this (j - i - 1) (by omega) (by omega)
  simp only [show i + (j - i - 1) + 1 = j by omega, List.getElem_map] at h2
  exact h2
theorem recOf_unique (ps qs : List (ByteArray × S26)) (hp : qs.Perm ps) (hs : qs.Pairwise fun a b => ¬ key b < key a) : recOf (ps.mergeSort leP) = recOf qs := by
  have hp2 : (ps.mergeSort leP).Perm qs := (List.mergeSort_perm ps leP).trans hp.symm
  have hs2 : (ps.mergeSort leP).Pairwise fun a b => leP a b = true := List.pairwise_mergeSort (fun a b c h1 h2 => by
    unfold leP at *
    simp only [decide_eq_true_iff] at *
    exact List.le_trans h1 h2) (fun a b => by
    unfold leP
    rcases List.le_total a.1.data.toList b.1.data.toList with h | h <;> simp [h]) ps
  have hk : (ps.mergeSort leP).map key = qs.map key := by
    refine perm_eq (R := fun a b => ¬ b < a) _ _ (hp2.map key) ?_ ?_ ?_
    · rw [List.pairwise_map]
      exact hs2.imp fun {a b} h => by unfold leP at h; simpa [key] using h
    · rw [List.pairwise_map]; exact hs
    · intro a b _ _ h1 h2; exact List.le_antisymm (List.not_lt.1 h1) (List.not_lt.1 h2)
  unfold recOf
  rw [bl_key, bl_key, hk]
  by_cases hr : risingN (qs.map key) = true
  · rw [if_pos hr, if_pos hr]
    have : ps.mergeSort leP = qs := perm_eq (R := fun a b => key a < key b) _ _ hp2 (rise_pair (by rw [hk]; exact hr)) (rise_pair hr) (fun a b _ _ h1 h2 => absurd h2 (List.lt_asymm h1))
    rw [this]
  · rw [if_neg hr, if_neg hr]
theorem recT_eq {ls : List ByteArray} {ar : List S26} (hl : ls.length = ar.length) (qs : List (ByteArray × S26)) (hp : qs.Perm (ls.zip ar)) (hs : qs.Pairwise fun a b => ¬ key b < key a) : recT ls ar = recOf qs := by
  unfold recT
  rw [if_pos hl]
  exact recOf_unique _ _ hp hs
theorem recT_es {ls : List ByteArray} {ar : List S26} {es es' : List FE} (h1 : es.map FE.l = ls) (h2 : es.map (fun e => e.v.x) = ar) (hp : es'.Perm es) (hs : es'.Pairwise fun a b => ¬ b.l.data.toList < a.l.data.toList) :
    recT ls ar = if risingN (bl (es'.map FE.l)) = true then (⟨8, 0, ⟨#[]⟩, es'.map FE.l, es'.map fun e => e.v.x⟩, true) else (z26, false) := by
  subst h1 h2
  rw [recT_eq (by simp) (es'.map fun e => (e.l, e.v.x)) ?_ ?_]
  · unfold recOf
    simp only [List.map_map]
    rfl
  · have : ∀ l : List FE, (l.map FE.l).zip (l.map fun e => e.v.x) = l.map fun e => (e.l, e.v.x) := fun l => by
      induction l with
      | nil => rfl
      | cons a l ih => simp [ih]
    rw [this]
    exact hp.map _
  · rw [List.pairwise_map]; exact hs
end Go.Proofs.Ytkeeknlfommieaa.PF
namespace Go.Proofs.Ytkeeknlfommieaa.PF

/-- Where a field goes: behind those with lower labels. -/
def atP (p : ByteArray × S26) : List (ByteArray × S26) → Nat
  | [] => 0
  | q :: r => if key q < key p then atP p r + 1 else 0
def insP (p : ByteArray × S26) (ps : List (ByteArray × S26)) : List (ByteArray × S26) := ps.take (atP p ps) ++ p :: ps.drop (atP p ps)
theorem atP_le (p : ByteArray × S26) (ps : List (ByteArray × S26)) : atP p ps ≤ ps.length := by
  induction ps with
  | nil => exact Nat.le_refl _
  | cons q r ih => rw [atP]; split <;> simp <;> omega
theorem atP_lt (p : ByteArray × S26) (ps : List (ByteArray × S26)) : ∀ (j : Nat) (hj : j < ps.length), j < atP p ps → key ps[j] < key p := by
  induction ps with
  | nil => intro j hj; simp at hj
  | cons q r ih =>
    intro j hj h
    rw [atP] at h
    split at h
    · cases j with
      | zero => assumption
      | succ j => simpa using ih j (by simpa using hj) (by omega)
    · omega
theorem atP_at (p : ByteArray × S26) (ps : List (ByteArray × S26)) (h : atP p ps < ps.length) : ¬ key ps[atP p ps] < key p := by
  induction ps with
  | nil => simp at h
  | cons q r ih =>
    by_cases hq : key q < key p
    · have e : atP p (q :: r) = atP p r + 1 := by rw [atP, if_pos hq]
      have h2 : atP p r < r.length := by rw [e] at h; simpa using h
      have := ih h2
      simpa [e] using this
    · have e : atP p (q :: r) = 0 := by rw [atP, if_neg hq]
      simpa [e] using hq
/-- The place is the one at which the search stops. -/
theorem atP_stop (p : ByteArray × S26) (ps : List (ByteArray × S26)) (k : Nat) (hk : k ≤ ps.length) (h1 : ∀ (j : Nat) (hj : j < ps.length), j < k → key ps[j] < key p) (h2 : ∀ h : k < ps.length, ¬ key ps[k] < key p) : k = atP p ps := by
  rcases Nat.lt_trichotomy k (atP p ps) with h | h | h
  · have hl : k < ps.length := Nat.lt_of_lt_of_le h (atP_le p ps)
    exact absurd (atP_lt p ps k hl h) (h2 hl)
  · exact h
  · have hl : atP p ps < ps.length := by omega
    exact absurd (h1 _ hl h) (atP_at p ps hl)
theorem insP_nil (p : ByteArray × S26) : insP p [] = [p] := rfl
theorem insP_cons (p q : ByteArray × S26) (r : List (ByteArray × S26)) : insP p (q :: r) = if key q < key p then q :: insP p r else p :: q :: r := by
  unfold insP
  rw [atP]
  split <;> simp
theorem insP_perm (p : ByteArray × S26) (ps : List (ByteArray × S26)) : (insP p ps).Perm (p :: ps) := by
  induction ps with
  | nil => rw [insP_nil]
  | cons q r ih =>
    rw [insP_cons]
    split
    · exact ((List.perm_cons q).2 ih).trans (List.Perm.swap _ _ _)
    · exact List.Perm.refl _
theorem insP_sorted (p : ByteArray × S26) (ps : List (ByteArray × S26)) (hs : ps.Pairwise fun a b => key a < key b) (hn : key p ∉ ps.map key) : (insP p ps).Pairwise fun a b => key a < key b := by
  induction ps with
  | nil => rw [insP_nil]; simp
  | cons q r ih =>
    rw [insP_cons]
    obtain ⟨h1, h2⟩ := List.pairwise_cons.1 hs
    simp only [List.map_cons, List.mem_cons, not_or] at hn
    split
    · rename_i hq
      refine List.pairwise_cons.2 ⟨fun x hx => ?_, ih h2 hn.2⟩
      rcases List.mem_cons.1 ((insP_perm p r).subset hx) with rfl | h
      · exact hq
      · exact h1 x h
    · rename_i hq
      have hpq : key p < key q := by
        rcases List.le_iff_lt_or_eq.1 (List.not_lt.1 hq) with h | h
        · exact h
        · exact absurd h hn.1
      refine List.pairwise_cons.2 ⟨fun x hx => ?_, hs⟩
      rcases List.mem_cons.1 hx with rfl | h
      · exact hpq
      · exact List.lt_trans hpq (h1 x h)
/-- The fields put in one by one; none: a label is no name, or stands twice. -/
def refGo : List (ByteArray × S26) → List (ByteArray × S26) → Option (List (ByteArray × S26))
  | acc, [] => some acc
  | acc, p :: r => if fineN (key p) = true ∧ key p ∉ acc.map key then refGo (insP p acc) r else none
def refRecT (ls : List ByteArray) (ar : List S26) : S26 × Bool :=
  if ls.length = ar.length then (match refGo [] (ls.zip ar) with
    | some out => (⟨8, 0, ⟨#[]⟩, out.map Prod.fst, out.map Prod.snd⟩, true)
    | none => (z26, false)) else (z26, false)
theorem refGo_some : ∀ (r acc out : List (ByteArray × S26)), acc.Pairwise (fun a b => key a < key b) → (∀ a ∈ acc, fineN (key a) = true) → refGo acc r = some out →
    out.Pairwise (fun a b => key a < key b) ∧ (∀ a ∈ out, fineN (key a) = true) ∧ out.Perm (acc ++ r) := by
  intro r
  induction r with
  | nil =>
    intro acc out h1 h2 h
    rw [refGo] at h
    cases h
    exact ⟨h1, h2, by simp⟩
  | cons p r ih =>
    intro acc out h1 h2 h
    rw [refGo] at h
    split at h
    · rename_i hp
      obtain ⟨g1, g2, g3⟩ := ih (insP p acc) out (insP_sorted p acc h1 hp.2) (fun a ha => by
        rcases List.mem_cons.1 ((insP_perm p acc).subset ha) with rfl | h
        · exact hp.1
        · exact h2 a h) h
      refine ⟨g1, g2, g3.trans ?_⟩
      exact ((insP_perm p acc).append_right r).trans List.perm_middle.symm
    · cases h
theorem refGo_none : ∀ (r acc : List (ByteArray × S26)), refGo acc r = none → ¬ ((∀ a ∈ acc ++ r, fineN (key a) = true) ∧ ((acc ++ r).map key).Nodup) := by
  intro r
  induction r with
  | nil => intro acc h; rw [refGo] at h; cases h
  | cons p r ih =>
    intro acc h
    rw [refGo] at h
    split at h
    · rename_i hp
      have := ih (insP p acc) h
      rintro ⟨g1, g2⟩
      have hperm : (insP p acc ++ r).Perm (acc ++ p :: r) := ((insP_perm p acc).append_right r).trans List.perm_middle.symm
      exact this ⟨fun a ha => g1 a (hperm.subset ha), (hperm.map key).nodup_iff.2 g2⟩
    · rename_i hp
      rintro ⟨g1, g2⟩
      refine hp ⟨g1 p (by simp), fun hm => ?_⟩
      rw [List.map_append, List.nodup_append] at g2
      exact g2.2.2 (key p) hm (key p) (by simp) rfl
theorem rising_of {l : List (List UInt8)} (h1 : ∀ a ∈ l, fineN a = true) (h2 : l.Pairwise (· < ·)) : risingN l = true := by
  unfold risingN
  refine allUp_yes fun j hj => ?_
  unfold riseAt
  simp only [List.getD_eq_getElem?_getD, List.getElem?_eq_getElem hj, Option.getD_some, Bool.and_eq_true, Bool.or_eq_true, decide_eq_true_iff]
  refine ⟨h1 _ (List.getElem_mem hj), ?_⟩
  by_cases h0 : j = 0
  · exact .inl h0
  · refine .inr ?_
    rw [List.getElem?_eq_getElem (show j - 1 < l.length by omega), Option.getD_some, bytesLess_eq, decide_eq_true_iff]
    exact (List.pairwise_iff_getElem.1 h2) (j - 1) j (by omega) hj (by omega)
theorem rise_fine {l : List (List UInt8)} (h : risingN l = true) : ∀ a ∈ l, fineN a = true := by
  intro a ha
  obtain ⟨j, hj, rfl⟩ := List.mem_iff_getElem.1 ha
  have h1 := allUp_iff.1 h j hj
  unfold riseAt at h1
  simp only [Bool.and_eq_true] at h1
  have := h1.1
  rwa [List.getD_eq_getElem?_getD, List.getElem?_eq_getElem hj, Option.getD_some] at this
theorem nodup_of_lt {l : List (List UInt8)} (h : l.Pairwise (· < ·)) : l.Nodup := h.imp fun {a b} hab e => by subst e; exact List.lt_irrefl _ hab
theorem refRec_eq (ls : List ByteArray) (ar : List S26) : refRecT ls ar = recT ls ar := by
  unfold refRecT
  by_cases hl : ls.length = ar.length
  · rw [if_pos hl]
    cases hg : refGo [] (ls.zip ar) with
    | some out =>
      obtain ⟨g1, g2, g3⟩ := refGo_some _ _ _ List.Pairwise.nil (by simp) hg
      rw [recT_eq hl out (by simpa using g3) (g1.imp fun {a b} h => List.lt_asymm h)]
      unfold recOf
      rw [bl_key, if_pos]
      refine rising_of ?_ ?_
      · intro a ha
        obtain ⟨x, hx, rfl⟩ := List.mem_map.1 ha
        exact g2 x hx
      · rw [List.pairwise_map]; exact g1
    | none =>
      have hn := refGo_none _ _ hg
      unfold recT recOf
      rw [if_pos hl, bl_key]
      by_cases hr : risingN (((ls.zip ar).mergeSort leP).map key) = true
      · exfalso
        have hp : ((ls.zip ar).mergeSort leP).Perm (ls.zip ar) := List.mergeSort_perm _ _
        refine hn ⟨fun a ha => ?_, ?_⟩
        · exact rise_fine hr _ (List.mem_map.2 ⟨a, hp.symm.subset (by simpa using ha), rfl⟩)
        · rw [List.nil_append]
          refine (hp.map key).nodup_iff.1 (nodup_of_lt ?_)
          rw [List.pairwise_map]
          exact rise_pair hr
      · rw [if_neg hr]
  · unfold recT
    rw [if_neg hl, if_neg hl]
end Go.Proofs.Ytkeeknlfommieaa.PF
namespace Go.Proofs.Ytkeeknlfommieaa.PF
open Go.RowKit Go.Shelf Go.Sort Go.Proofs.YtkeeknlfommieaaW.PrintWords Go.Proofs.YtkeeknlfommieaaW.PrintLast Go.Proofs.YtkeeknlfommieaaW.PrintMore

theorem FE.h15 (e : FE) : ∀ v ∈ e.enc5, v.oneCell' = true := by
  intro v hv
  simp only [FE.enc5, List.mem_cons, List.not_mem_nil, or_false] at hv
  rcases hv with rfl | rfl | rfl | rfl | rfl <;> rfl
def ResTy (y : S26 × Bool) (w : World) (e : Ending) (w' : World) : Prop := (∃ v, e = .returned (.tuple #[v, .bool y.2]) ∧ RT w' v y.1) ∧ Below w.heap.size w w'
set_option maxRecDepth 100000 in
set_option maxHeartbeats 4000000 in
theorem rec_calls (hi : Nat) (hs : SortOK hi) (hi32 : hi ≤ 4294967296) (A B : Option Addr) (c d : Nat) (ls : List ByteArray) (ar : List S26) (w : World) (lc : ls.length ≤ c) (ld : ar.length ≤ d) (g3 : Kd.string.C w A ls.length ls) (g4 : k26.C w B ar.length ar) (hn : ls.length ≤ hi) :
    Calls Try.prog 40 #[.slice A ls.length c, .slice B ar.length d] w (ResTy (recT ls ar) w) := by
  by_cases hl : ls.length = ar.length
  · have hl' : ((ls.length : Int) != (ar.length : Int)) = false := by rw [bne_eq_false_iff_eq]; omega
    obtain ⟨es, hf⟩ := fields_of g3 g4 hl
    have HF := Aside0.mk hf
    have HLS := Aside0.mk hf.len.1
    have HAR := Aside0.mk hf.len.2
    have HR := Aside0.mk (show recT ls ar = recOf ((ls.zip ar).mergeSort leP) from by unfold recT; rw [if_pos hl])
    have HN := Aside0.mk hn
    have HS := Aside0.mk hs
    have HI := Aside0.mk hi32
    have hls := g3.2.1
    clear hf g3 g4 lc ld hl hn hs hi32
    go_enter Try.func40, Try.ntmps40
    go_wp2_with fail
    go_loopg [6, 20] ls.length (fun gk v i wr => ∃ k : Nat, i = .int .i64 k ∧ Aside0 (gk + k = ls.length) ∧ Aside0 (k = 0 → v = .slice none 0 0) ∧ Aside0 (wr.ownsRow (w.heap.size + 1) 89 6 v k ((es.take k).flatMap FE.enc)) ∧ Aside0 (Below (w.heap.size + 1) (w.alloc (.cells #[.int .i64 0, .int .i64 0, .string ⟨#[]⟩, .slice none 0 0, .slice none 0 0] 26)) wr))
    case atStart => exact ⟨0, rfl, ⟨rfl⟩, ⟨fun _ => rfl⟩, ⟨World.ownsRow_nil _ _ _ _⟩, ⟨Below.refl _ _⟩⟩
    case round =>
      obtain ⟨k, rfl, HK, HNIL, HO, HB⟩ := hrel
      by_cases hlt : k < ls.length
      · have hltZ : ((k : Int) < (ls.length : Int)) := by omega
        have hltZ2 : ((k : Int) < (ar.length : Int)) := by have := HLS.out; have := HAR.out; omega
        have hlt2 : k < es.length := by have := HLS.out; omega
        have hbw : Below w.heap.size w wr := (below_alloc (Below.refl _ _) _).trans (HB.out.mono (by omega))
        obtain ⟨ad, bd, eA, eB, h0, h1, h2, h3, h4, h5⟩ := HF.out.cl k hlt2
        cases eA
        cases eB
        have HT := Aside0.mk (show (es.take (k + 1)).flatMap FE.enc = (es.take k).flatMap FE.enc ++ (es[k]).enc from by rw [List.take_succ_eq_append_getElem hlt2, List.flatMap_append]; simp)
        generalize es[k] = e at *
        have q0 := pw_cell_below hbw h0
        have q1 := pw_cell_below hbw h1
        have q2 := pw_cell_below hbw h2
        have q3 := pw_cell_below hbw h3
        have q4 := pw_cell_below hbw h4
        have q5 := pw_cell_below hbw h5
        have HLT := Aside0.mk hlt
        clear h0 h1 h2 h3 h4 h5 hlt hlt2 hbw
        have hsz : w.heap.size + 1 ≤ wr.heap.size := by have h_ := HB.out.size; simpa only [World.size_alloc] using h_
        go_wp2_with ((with_reducible refine gate_builtin (b := .append) (xs := #[.tmp 25, .tmp 32]) rfl ?_); at_builtin; refine print_append_cells (w0 := (w.alloc (.cells #[.int .i64 0, .int .i64 0, .string ⟨#[]⟩, .slice none 0 0, .slice none 0 0] 26))) (w.heap.size + 1) rfl (.tmp 25) (.tmp 32) 87 89 (.agg #[(.string ⟨#[]⟩), (.int .i64 0), (.int .i64 0), (.string ⟨#[]⟩), (.slice none 0 0), (.slice none 0 0)]) 6 96 rfl Try.underlying87 info89 rfl (by decide) (by omega) _ k _ [.string e.l, .int .i64 e.v.x.f0, .int .i64 e.v.x.f1, .string e.v.x.f2, .slice e.v.A3 e.v.x.f3.length e.v.c3, .slice e.v.A4 e.v.x.f4.length e.v.c4] rfl rfl rfl (FE.h1 e) HO.out HB.out hsz (by have := HLT.out; have := HN.out; have := HI.out; omega) ?_; intro v1 w1 ho hb _ _)
        go_roundg (gk - 1)
        case measure => have := HK.out; have := HLT.out; omega
        case rel => exact ⟨k + 1, by go_num, ⟨by have := HK.out; have := HLT.out; omega⟩, ⟨fun h => by omega⟩, ⟨by rw [HT.out]; exact ho⟩, ⟨hb⟩⟩
      · have hltz : ¬ (k : Int) < (ls.length : Int) := by omega
        obtain rfl : k = ls.length := by have := HK.out; omega
        have hsz : w.heap.size + 1 ≤ wr.heap.size := by have h_ := HB.out.size; simpa only [World.size_alloc] using h_
        obtain ⟨A1, cap1, rfl, hcall⟩ := sort_any HS.out HO.out (by rw [List.length_take]; have := HLS.out; omega) HN.out HNIL.out hsz
        rw [List.take_of_length_le (by have := HLS.out; omega)] at hcall
        have HC := Aside0.mk hcall
        clear HK hltz hlt hcall HNIL HO
        go_wp2_with (go_at_call 74; refine HC.out.mono ?_; rintro e W2 ⟨rfl, es', hrow⟩; have HROW := Aside0.mk hrow; clear hrow)
        have HLE := Aside0.mk (show es'.length = ls.length from by rw [HROW.out.perm.length_eq, HLS.out])
        obtain ⟨T, hT⟩ : ∃ T, W2.heap.size = T := ⟨_, rfl⟩
        have HTS := Aside0.mk hT
        have hT0 := blk_new W2 (.cells #[.int .i64 8, .int .i64 0, .string ⟨#[]⟩, .slice none 0 0, .slice none 0 0] 26)
        rw [hT] at hT0 ⊢
        have HT0 := Aside0.mk hT0
        clear hT hT0
        go_loopg [40] ls.length (fun gk i wr => ∃ (k : Nat) (vL vA : Value), i = .int .i64 k ∧ Aside0 (gk + k = ls.length) ∧ Aside0 (wr.heap[T]? = some (.cells #[.int .i64 8, .int .i64 0, .string ⟨#[]⟩, vL, vA] 26 (0, 0))) ∧ Aside0 (wr.ownsRow (T + 1) 9 1 vL k (((es'.take k).map FE.l).map Value.string)) ∧ Aside0 (wr.ownsRow (T + 1) 26 5 vA k ((es'.take k).flatMap FE.enc5)) ∧ Aside0 (Below T W2 wr) ∧ Aside0 (T + 1 ≤ wr.heap.size))
        case atStart => exact ⟨0, _, _, rfl, ⟨rfl⟩, HT0, ⟨World.ownsRow_nil _ _ _ _⟩, ⟨World.ownsRow_nil _ _ _ _⟩, ⟨by have := below_alloc (Below.refl W2.heap.size W2) (.cells #[.int .i64 8, .int .i64 0, .string ⟨#[]⟩, .slice none 0 0, .slice none 0 0] 26); rw [HTS.out] at this; exact this⟩, ⟨by rw [World.size_alloc, HTS.out]; exact Nat.le_refl _⟩⟩
        case round =>
          obtain ⟨k, vL, vA, rfl, HK, HTB, HVL, HVA, HB2, HSZ⟩ := hrel
          by_cases hlt : k < ls.length
          · have hltZ : ((k : Int) < (ls.length : Int)) := by omega
            have hlt2 : k < es'.length := by have := HLE.out; omega
            have hbw : Below W2.heap.size W2 wr := by rw [HTS.out]; exact HB2.out
            obtain ⟨ad, eA, h0, h1, h2, h3, h4, h5⟩ := HROW.out.cl k hlt2
            cases eA
            have HT1 := Aside0.mk (show ((es'.take (k + 1)).map FE.l).map Value.string = ((es'.take k).map FE.l).map Value.string ++ [.string es'[k].l] from by rw [List.take_succ_eq_append_getElem hlt2, List.map_append, List.map_append]; rfl)
            have HT2 := Aside0.mk (show (es'.take (k + 1)).flatMap FE.enc5 = (es'.take k).flatMap FE.enc5 ++ (es'[k]).enc5 from by rw [List.take_succ_eq_append_getElem hlt2, List.flatMap_append]; simp)
            generalize es'[k] = e at *
            have q0 := pw_cell_below hbw h0
            have q1 := pw_cell_below hbw h1
            have q2 := pw_cell_below hbw h2
            have q3 := pw_cell_below hbw h3
            have q4 := pw_cell_below hbw h4
            have q5 := pw_cell_below hbw h5
            have HLT := Aside0.mk hlt
            clear h0 h1 h2 h3 h4 h5 hlt hlt2 hbw
            have hc3 := blk_cell HTB.out 3
            have hc4 := blk_cell HTB.out 4
            simp at hc3 hc4
            have hz : T < wr.heap.size := HSZ.out
            go_wp2_with (first | ((with_reducible refine gate_builtin (b := .append) (xs := #[.tmp 45, .tmp 48]) rfl ?_); at_builtin; refine print_append_cells (w0 := wr.alloc (.cells #[.string e.l, .int .i64 e.v.x.f0, .int .i64 e.v.x.f1, .string e.v.x.f2, .slice e.v.A3 e.v.x.f3.length e.v.c3, .slice e.v.A4 e.v.x.f4.length e.v.c4] 89)) (W := wr.alloc (.cells #[.string e.l, .int .i64 e.v.x.f0, .int .i64 e.v.x.f1, .string e.v.x.f2, .slice e.v.A3 e.v.x.f3.length e.v.c3, .slice e.v.A4 e.v.x.f4.length e.v.c4] 89)) (T + 1) rfl (.tmp 45) (.tmp 48) 23 9 (.string ⟨#[]⟩) 1 16 rfl Try.underlying23 info9 rfl (by decide) (by omega) vL k _ [.string e.l] rfl (by rw [World.size_alloc]; rfl) rfl (by intro u hu; simp only [List.mem_singleton] at hu; rw [hu]; rfl) (HVL.out.alloc _) (Below.refl _ _) (by have := HSZ.out; simp only [World.size_alloc]; omega) (by have := HLT.out; have := HN.out; have := HI.out; omega) ?_; intro v1 w1 ho1 hb1 hg1 hat1; obtain ⟨g1, cap1', rfl⟩ := ownsRow_succ ho1; have HO1 := Aside0.mk ho1; have HB1 := Aside0.mk hb1; have HG1 := Aside0.mk hg1; have hT1 : w1.heap[T]? = some (.cells #[.int .i64 8, .int .i64 0, .string ⟨#[]⟩, vL, vA] 26 (0, 0)) := (hb1.block T (Nat.lt_succ_self T)).trans (blk_alloc HTB.out _); have hF1 : w1.heap[wr.heap.size]? = some (.cells #[.string e.l, .int .i64 e.v.x.f0, .int .i64 e.v.x.f1, .string e.v.x.f2, .slice e.v.A3 e.v.x.f3.length e.v.c3, .slice e.v.A4 e.v.x.f4.length e.v.c4] 89 (0, 0)) := blk_grown (blk_new wr _) hg1 (fun h_ => by have h2_ := (HVL.out.lt _ h_.symm).2; omega); have HTT := Aside0.mk hT1; have HFF := Aside0.mk hF1; have c3 := blk_cell hT1 3; have c4 := blk_cell hT1 4; have f0 := blk_cell hF1 0; have f1 := blk_cell hF1 1; have f2 := blk_cell hF1 2; have f3 := blk_cell hF1 3; have f4 := blk_cell hF1 4; have f5 := blk_cell hF1 5; have fz := blk_frozen hT1 3; have hne : wr.heap.size ≠ T := Nat.ne_of_gt hz; simp at c3 c4 f0 f1 f2 f3 f4 f5; clear ho1 hb1 hg1 hat1 hT1 hF1) | ((with_reducible refine gate_builtin (b := .append) (xs := #[.tmp 52, .tmp 55]) rfl ?_); at_builtin; refine print_append_cells (w0 := w1.setCell ⟨T, 3, none⟩ (.slice (some ⟨g1, 0, none⟩) (k + 1) cap1')) (W := w1.setCell ⟨T, 3, none⟩ (.slice (some ⟨g1, 0, none⟩) (k + 1) cap1')) (T + 1) rfl (.tmp 52) (.tmp 55) 24 26 (.agg #[(.int .i64 0), (.int .i64 0), (.string ⟨#[]⟩), (.slice none 0 0), (.slice none 0 0)]) 5 80 rfl Try.underlying24 info26 rfl (by decide) (by omega) vA k _ [.int .i64 e.v.x.f0, .int .i64 e.v.x.f1, .string e.v.x.f2, .slice e.v.A3 e.v.x.f3.length e.v.c3, .slice e.v.A4 e.v.x.f4.length e.v.c4] rfl (by rw [World.size_setCell]; rfl) rfl (FE.h15 e) (((HVA.out.alloc _).kept HG1.out (row_ne HVA.out HVL.out (by decide))).kept (grownBy_set w1 T 3 _) (own_far HVA.out)) (Below.refl _ _) (by have := HSZ.out; have h_ := HB1.out.size; simp only [World.size_alloc, World.size_setCell] at h_ ⊢; omega) (by have := HLT.out; have := HN.out; have := HI.out; omega) ?_; intro v2 w2 ho2 hb2 hg2 hat2; obtain ⟨g2, cap2', rfl⟩ := ownsRow_succ ho2; have HO2 := Aside0.mk ho2; have HB3 := Aside0.mk hb2; have HG2 := Aside0.mk hg2; have hT3 : w2.heap[T]? = some (.cells #[.int .i64 8, .int .i64 0, .string ⟨#[]⟩, .slice (some ⟨g1, 0, none⟩) (k + 1) cap1', vA] 26 (0, 0)) := (hb2.block T (Nat.lt_succ_self T)).trans (blk_put HTT.out 3 _ rfl); have d4 := blk_cell hT3 4; have dz := blk_frozen hT3 4; simp at d4; clear ho2 hb2 hg2 hat2 hT3))
            go_roundg (gk - 1)
            case measure => have := HK.out; have := HLT.out; omega
            case rel =>
              have hr := round2 HB2.out HSZ.out HTB.out HVL.out HVA.out HO1.out HB1.out HG1.out HO2.out HB3.out HG2.out
              exact ⟨k + 1, _, _, by go_num, ⟨by have := HK.out; have := HLT.out; omega⟩, ⟨hr.1⟩, ⟨by rw [HT1.out]; exact hr.2.1⟩, ⟨by rw [HT2.out]; exact hr.2.2.1⟩, ⟨hr.2.2.2.1⟩, ⟨hr.2.2.2.2⟩⟩
          · have hltz : ¬ (k : Int) < (ls.length : Int) := by omega
            obtain rfl : k = ls.length := by have := HK.out; omega
            clear HK hlt hltz
            have h1 := HVL.out
            have h2 := HVA.out
            rw [List.take_of_length_le (by have := HLE.out; omega)] at h1 h2
            have hbW : Below w.heap.size w W2 := (below_alloc (Below.refl _ _) _).trans ((HB.out.mono (by omega)).trans (HROW.out.low.mono (by omega)))
            have hbr : Below w.heap.size w wr := hbW.trans (HB2.out.mono (by rw [← HTS.out]; exact hbW.size))
            obtain ⟨AL, cl, rfl, hlc, hCL⟩ := cS_of_own h1
            obtain ⟨AA, ca, rfl, hac, hCA⟩ := c26_of_own h2 HLE.out (by have := HN.out; have := HI.out; omega) (fun e he => (HF.out.rt e (HROW.out.perm.subset he)).below hbr)
            have hz : w.heap.size + 1 ≤ T := by rw [← HTS.out]; exact Nat.le_trans (by have h_ := HB.out.size; simpa only [World.size_alloc] using h_) HROW.out.low.size
            have HBO := Aside0.mk (show wr.heap[w.heap.size]? = some (.cells #[.int .i64 0, .int .i64 0, .string ⟨#[]⟩, .slice none 0 0, .slice none 0 0] 26 (0, 0)) from
              (HB2.out.block _ (by omega)).trans ((HROW.out.low.block _ (Nat.lt_succ_self _)).trans ((HB.out.block _ (Nat.lt_succ_self _)).trans (blk_new w _))))
            have HSP := Aside0.mk (recT_es HF.out.l HF.out.x HROW.out.perm HROW.out.sorted)
            have HCL := Aside0.mk hCL
            have HCA := Aside0.mk hCA
            have HBR := Aside0.mk hbr
            have HV1 := Aside0.mk h1
            have HV2 := Aside0.mk h2
            have HRT := Aside0.mk (fun e he => HF.out.rt e (HROW.out.perm.subset he))
            have hll : (es'.map FE.l).length = ls.length := by simp [HLE.out]
            have hla : (es'.map fun e => e.v.x).length = ls.length := by simp [HLE.out]
            have HLL := Aside0.mk (And.intro hll hla)
            have HRS := Aside0.mk (fun W hb => rising_calls AL cl (es'.map FE.l) W (by rw [hll]; exact Kd.C_below hCL hb))
            rw [hll] at HRS
            clear hCL hCA hbr hbW h1 h2 hll hla
            have hzw : T < wr.heap.size := HSZ.out
            have hzr : w.heap.size < wr.heap.size := by omega
            have t0 := blk_cell HTB.out 0
            have t1 := blk_cell HTB.out 1
            have t2 := blk_cell HTB.out 2
            have t3 := blk_cell HTB.out 3
            have t4 := blk_cell HTB.out 4
            simp at t0 t1 t2 t3 t4
            obtain ⟨b, hb⟩ : ∃ b, risingN (bl (es'.map FE.l)) = b := ⟨_, rfl⟩
            have HBV := Aside0.mk hb
            clear hb
            have r0 := blk_cell HBO.out 0
            have r1 := blk_cell HBO.out 1
            have r2 := blk_cell HBO.out 2
            have r3 := blk_cell HBO.out 3
            have r4 := blk_cell HBO.out 4
            have rz := fun i => blk_frozen HBO.out i
            simp at r0 r1 r2 r3 r4
            cases b with
            | true =>
              go_wp2_with (go_at_call 67; refine (HRS.out _ (Below.refl _ _)).mono ?_; rw [HBV.out]; rintro e w3 ⟨rfl, hb3⟩; obtain ⟨hcell, hfroz⟩ := bcell hb3; have HB3 := Aside0.mk hb3; have hz3 : wr.heap.size ≤ w3.heap.size := hb3.size; clear hb3)
              refine bodyPost_ret (results_ct rfl _ _ w.heap.size 26 _ (0, 0) _ rfl (put5 (blk_below HBO.out HB3.out)) Try.underlying26 rfl (by kernel_rfl)) rfl ?_
              have hbf := below5 (b0 := .int .i64 8) (b1 := .int .i64 0) (b2 := .string ⟨#[]⟩) (b3 := .slice AL ls.length cl) (b4 := .slice AA ls.length ca) (HBR.out.trans (HB3.out.mono (by omega))) (Nat.le_refl w.heap.size)
              have ho1 := own_put5 (b0 := .int .i64 8) (b1 := .int .i64 0) (b2 := .string ⟨#[]⟩) (b3 := .slice AL ls.length cl) (b4 := .slice AA ls.length ca) (HV1.out.kept (grownBy_below HB3.out) (Classical.em _)) (show w.heap.size ≤ T by omega)
              have ho2 := own_put5 (b0 := .int .i64 8) (b1 := .int .i64 0) (b2 := .string ⟨#[]⟩) (b3 := .slice AL ls.length cl) (b4 := .slice AA ls.length ca) (HV2.out.kept (grownBy_below HB3.out) (Classical.em _)) (show w.heap.size ≤ T by omega)
              have hrd := rec_reads ho1 ho2 HLE.out (by have := HN.out; have := HI.out; omega) HRT.out hbf
              rw [HSP.out, if_pos HBV.out]
              exact ⟨⟨_, rfl, hrd⟩, hbf⟩
            | false =>
              go_wp2_with (go_at_call 67; refine (HRS.out _ (Below.refl _ _)).mono ?_; rw [HBV.out]; rintro e w3 ⟨rfl, hb3⟩; obtain ⟨hcell, hfroz⟩ := bcell hb3; have HB3 := Aside0.mk hb3; have hz3 : wr.heap.size ≤ w3.heap.size := hb3.size; clear hb3)
              refine bodyPost_ret (results_ct rfl _ _ w.heap.size 26 _ (0, 0) _ rfl (put5 (blk_below HBO.out HB3.out)) Try.underlying26 rfl (by kernel_rfl)) rfl ?_
              rw [HSP.out, if_neg (by rw [HBV.out]; exact Bool.false_ne_true)]
              exact ⟨⟨_, rfl, RT_z _⟩, below5 (HBR.out.trans (HB3.out.mono (by omega))) (Nat.le_refl _)⟩
  · have hl' : ((ls.length : Int) != (ar.length : Int)) = true := by rw [bne_iff_ne]; omega
    have HR := Aside0.mk (show recT ls ar = (z26, false) from by unfold recT; rw [if_neg hl])
    clear g3 g4 lc ld hl hn hs
    go_enter Try.func40, Try.ntmps40
    have hb0 := blk_new w (.cells #[.int .i64 0, .int .i64 0, .string ⟨#[]⟩, .slice none 0 0, .slice none 0 0] 26)
    go_wp2
    refine bodyPost_ret (results_ct rfl _ _ w.heap.size 26 _ (0, 0) _ rfl hb0 Try.underlying26 rfl (by kernel_rfl)) rfl ?_
    rw [HR.out]
    exact ⟨⟨_, rfl, RT_z _⟩, below_alloc (Below.refl _ _) _⟩
end Go.Proofs.Ytkeeknlfommieaa.PF
namespace Go.Proofs.Ytkeeknlfommieaa.PF
open Go.RowKit Go.Proofs.YtkeeknlfommieaaW.PrintWords Go.Proofs.YtkeeknlfommieaaW.PrintLast Go.Proofs.YtkeeknlfommieaaW.PrintMore

theorem wr_succ {i : Nat} (h : i < 4611686018427387904) : wrap64 ((i : Int) + 1) = ((i + 1 : Nat) : Int) := by unfold wrap64; omega
theorem rdOf_nat {α : Type} (d : α) (l : List α) (i : Nat) (h : i < l.length) : rdOf d l (i : Int) = l[i] := by
  simp [rdOf, List.getD_eq_getElem?_getD, List.getElem?_eq_getElem h]
theorem kept_l1 (x : ByteArray) (l : List ByteArray) (hl : l.length ≤ 100) : ∀ n i k, i + n = l.length → n < k → limbeckref01_Kept.l1 k x l (i : Int) = some (if x.data.toList ∈ bl (l.drop i) then 4 else 0) := by
  intro n
  induction n with
  | zero =>
    intro i k hi hk
    obtain ⟨m, rfl⟩ : ∃ m, k = m + 1 := ⟨k - 1, by omega⟩
    rw [limbeckref01_Kept.l1, if_neg (by omega), List.drop_of_length_le (by omega)]
    rfl
  | succ n ih =>
    intro i k hi hk
    obtain ⟨m, rfl⟩ : ∃ m, k = m + 1 := ⟨k - 1, by omega⟩
    have hlt : i < l.length := by omega
    rw [limbeckref01_Kept.l1, if_pos (by omega), if_pos (by omega), rdOf_nat _ _ _ hlt, wr_succ (by omega), ih (i + 1) m (by omega) (by omega), drop_head l i hlt]
    by_cases e : l[i].toList = x.toList
    · rw [if_pos e, if_pos (by rw [← bytes_ext e]; exact List.mem_cons_self)]
    · rw [if_neg e]
      have : x.data.toList ∈ bl (l[i] :: l.drop (i + 1)) ↔ x.data.toList ∈ bl (l.drop (i + 1)) := by
        rw [show bl (l[i] :: l.drop (i + 1)) = l[i].data.toList :: bl (l.drop (i + 1)) from rfl, List.mem_cons]
        exact ⟨fun h => h.resolve_left (fun h => e (by rw [ByteArray.toList_eq, ByteArray.toList_eq, h])), .inr⟩
      simp only [this]
theorem kept_l0 (x : ByteArray) (l : List ByteArray) (hl : l.length ≤ 100) : ∀ n i k, i + n = l.length → n + 6 ≤ k → limbeckref01_Kept.l0 k x l (i : Int) = some (if x.data.toList ∈ bl (l.drop i) then 3 else if x.data.toList ∈ bl [⟨#[73, 110, 116]⟩, ⟨#[66, 111, 111, 108]⟩, ⟨#[83, 116, 114, 105, 110, 103]⟩, ⟨#[84, 111, 112]⟩] then 4 else 0) := by
  intro n
  induction n with
  | zero =>
    intro i k hi hk
    obtain ⟨m, rfl⟩ : ∃ m, k = m + 1 := ⟨k - 1, by omega⟩
    rw [limbeckref01_Kept.l0, if_neg (by omega), List.drop_of_length_le (by omega)]
    have := kept_l1 x [⟨#[73, 110, 116]⟩, ⟨#[66, 111, 111, 108]⟩, ⟨#[83, 116, 114, 105, 110, 103]⟩, ⟨#[84, 111, 112]⟩] (by simp) 4 0 m rfl (by omega)
    rw [List.drop_zero] at this
    rw [if_neg (show ¬ x.data.toList ∈ bl [] from List.not_mem_nil)]
    exact this
  | succ n ih =>
    intro i k hi hk
    obtain ⟨m, rfl⟩ : ∃ m, k = m + 1 := ⟨k - 1, by omega⟩
    have hlt : i < l.length := by omega
    rw [limbeckref01_Kept.l0, if_pos (by omega), if_pos (by omega), rdOf_nat _ _ _ hlt, wr_succ (by omega), ih (i + 1) m (by omega) (by omega), drop_head l i hlt]
    by_cases e : l[i].toList = x.toList
    · rw [if_pos e, if_pos (by rw [← bytes_ext e]; exact List.mem_cons_self)]
    · rw [if_neg e]
      have : x.data.toList ∈ bl (l[i] :: l.drop (i + 1)) ↔ x.data.toList ∈ bl (l.drop (i + 1)) := by
        rw [show bl (l[i] :: l.drop (i + 1)) = l[i].data.toList :: bl (l.drop (i + 1)) from rfl, List.mem_cons]
        exact ⟨fun h => h.resolve_left (fun h => e (by rw [ByteArray.toList_eq, ByteArray.toList_eq, h])), .inr⟩
      simp only [this]
theorem kept_ref (x : ByteArray) (k : Nat) (hk : 16 ≤ k) : limbeckref01_Kept.f k x = some (if x.data.toList ∈ keptL then 3 else if x.data.toList ∈ wordL then 4 else 0) := by
  unfold limbeckref01_Kept.f
  have h := kept_l0 x [⟨#[108, 101, 116]⟩, ⟨#[105, 110]⟩, ⟨#[105, 102]⟩, ⟨#[116, 104, 101, 110]⟩, ⟨#[101, 108, 115, 101]⟩, ⟨#[102, 110]⟩, ⟨#[99, 97, 108, 108]⟩, ⟨#[100, 101, 102]⟩, ⟨#[116, 114, 117, 101]⟩, ⟨#[102, 97, 108, 115, 101]⟩] (by simp) 10 0 k rfl (by omega)
  rw [List.drop_zero] at h
  refine h.trans ?_
  rw [show keptL = bl [⟨#[108, 101, 116]⟩, ⟨#[105, 110]⟩, ⟨#[105, 102]⟩, ⟨#[116, 104, 101, 110]⟩, ⟨#[101, 108, 115, 101]⟩, ⟨#[102, 110]⟩, ⟨#[99, 97, 108, 108]⟩, ⟨#[100, 101, 102]⟩, ⟨#[116, 114, 117, 101]⟩, ⟨#[102, 97, 108, 115, 101]⟩] from rfl, show wordL = bl [⟨#[73, 110, 116]⟩, ⟨#[66, 111, 111, 108]⟩, ⟨#[83, 116, 114, 105, 110, 103]⟩, ⟨#[84, 111, 112]⟩] from rfl]

theorem bt_nat (x : ByteArray) (i : Nat) (h : i < x.size) : bt x (i : Int) = ((x[i]'h).toNat : Int) := by simp [bt, h]
theorem low_ref (c : Nat) : limbeckref01_Low.f (c : Int) = some (lowB c) := by
  unfold limbeckref01_Low.f lowB
  by_cases h : 97 ≤ c
  · rw [if_pos (by omega)]; congr 1; simp [h]; omega
  · rw [if_neg (by omega)]; simp [h]
theorem up_ref (c : Nat) : limbeckref01_Up.f (c : Int) = some (upB c) := by
  unfold limbeckref01_Up.f upB
  by_cases h : 65 ≤ c
  · rw [if_pos (by omega)]; congr 1; simp [h]; omega
  · rw [if_neg (by omega)]; simp [h]
theorem dig_ref (c : Nat) : limbeckref01_Digit.f (c : Int) = some (digB c) := by
  unfold limbeckref01_Digit.f digB
  by_cases h : 48 ≤ c
  · rw [if_pos (by omega)]; congr 1; simp [h]; omega
  · rw [if_neg (by omega)]; simp [h]
theorem drop_b (s : ByteArray) (k : Nat) (h : k < s.size) : s.data.toList.drop k = (s[k]'h) :: s.data.toList.drop (k + 1) := by
  rw [List.drop_eq_getElem_cons (by simpa using h)]; rfl
theorem restN_0 (r : List UInt8) : restN 0 r = 0 := by unfold restN; split <;> rfl
theorem kind_l0 (x : ByteArray) (hx : x.size ≤ 8) (q : Int) (hq : q = 0 ∨ q = 1 ∨ q = 2) : ∀ n i k, i + n = x.size → n < k → limbeckref01_Kind.l0 k x q (i : Int) = some (restN q (x.data.toList.drop i)) := by
  intro n
  induction n with
  | zero =>
    intro i k hi hk
    obtain ⟨m, rfl⟩ : ∃ m, k = m + 1 := ⟨k - 1, by omega⟩
    rw [limbeckref01_Kind.l0, if_neg (by omega), List.drop_of_length_le (by simpa using (show x.size ≤ i by omega))]
    simp [restN]
  | succ n ih =>
    intro i k hi hk
    obtain ⟨m, rfl⟩ : ∃ m, k = m + 1 := ⟨k - 1, by omega⟩
    have hlt : i < x.size := by omega
    rw [limbeckref01_Kind.l0, if_pos (by omega), if_pos (by omega), bt_nat x i hlt, dig_ref, low_ref, up_ref, wr_succ (by omega), ih (i + 1) m (by omega) (by omega), drop_b x i hlt, restN_cons]
    simp only [Option.bind_some]
    cases h1 : digB (x[i]'hlt).toNat <;> cases h2 : lowB (x[i]'hlt).toNat <;> cases h3 : upB (x[i]'hlt).toNat <;> rcases hq with rfl | rfl | rfl <;> simp [restN_0]
theorem kind_ref (x : ByteArray) (k : Nat) (hk : 32 ≤ k) : limbeckref01_Kind.f k x = some (kindN x.data.toList) := by
  unfold limbeckref01_Kind.f kindN
  rw [kept_ref x k (by omega), Option.bind_some]
  by_cases h1 : x.data.toList ∈ keptL
  · simp only [if_pos h1]; rfl
  · simp only [if_neg h1]
    by_cases h2 : x.data.toList ∈ wordL
    · simp only [if_pos h2]; rfl
    · simp only [if_neg h2]
      rw [if_pos trivial]
      obtain ⟨m, rfl⟩ : ∃ m, k = m + 4 := ⟨k - 4, by omega⟩
      have hlen : x.data.toList.length = x.size := by simp
      unfold shapeN
      by_cases h3 : x.size < 1
      · have : x.data.toList = [] := List.eq_nil_of_length_eq_zero (by omega)
        rw [if_pos (by omega), limbeckref01_Kind.j0, if_pos rfl, this]
        rfl
      · rw [if_neg (by omega)]
        by_cases h4 : 8 < x.size
        · rw [if_pos (by omega), limbeckref01_Kind.j0, if_pos (by simp; omega)]
        · rw [if_neg (by omega), limbeckref01_Kind.j0, if_neg (by simp; omega), if_pos (by omega)]
          have h0 : 0 < x.size := by omega
          have hb := bt_nat x 0 h0
          have hd := drop_b x 0 h0
          rw [List.drop_zero] at hd
          have hs : shapeS 0 0 x.data.toList = if lowB (x[0]'h0).toNat then restN 1 (x.data.toList.drop 1) else if upB (x[0]'h0).toNat then restN 2 (x.data.toList.drop 1) else 0 := by rw [hd]; rfl
          rw [hs, show bt x 0 = bt x ((0 : Nat) : Int) from rfl, hb, low_ref, Option.bind_some]
          have hl := fun q hq => kind_l0 x (by omega) q hq (x.size - 1) 1 (m + 1) (by omega) (by omega)
          cases e1 : lowB (x[0]'h0).toNat
          · simp only [Bool.false_eq_true, if_false]
            rw [limbeckref01_Kind.j1, if_pos (by omega), show bt x 0 = bt x ((0 : Nat) : Int) from rfl, hb, up_ref, Option.bind_some]
            cases e2 : upB (x[0]'h0).toNat
            · simp only [Bool.false_eq_true, if_false]
              rw [limbeckref01_Kind.j2]
              have := hl 0 (.inl rfl)
              rw [restN_0] at this
              exact this
            · simp only [if_true]
              rw [limbeckref01_Kind.j2]
              exact hl 2 (.inr (.inr rfl))
          · simp only [if_true]
            have e2 : upB (x[0]'h0).toNat = false := by unfold lowB at e1; unfold upB; simp at e1 ⊢; omega
            rw [limbeckref01_Kind.j1, if_pos (by omega), show bt x 0 = bt x ((0 : Nat) : Int) from rfl, hb, up_ref, Option.bind_some, e2]
            simp only [Bool.false_eq_true, if_false]
            rw [limbeckref01_Kind.j2]
            exact hl 1 (.inr (.inl rfl))
theorem fine_ref (x : ByteArray) (k : Nat) (hk : 32 ≤ k) : limbeckref01_Fine.f k x = some (fineN x.data.toList) := by
  unfold limbeckref01_Fine.f fineN
  rw [kind_ref x k hk, Option.bind_some]
theorem var_ref (x : ByteArray) (k : Nat) (hk : 32 ≤ k) : limbeckref01_Var.f k x = some (varN x.data.toList) := by
  unfold limbeckref01_Var.f varN
  rw [kind_ref x k hk, Option.bind_some]
theorem rfine_calls (x : ByteArray) (w : World) : Calls Try.prog 76 #[.string x] w fun e w' => e = .returned (.bool (fineN x.data.toList)) ∧ Below w.heap.size w w' :=
  limbeckref01_Fine.calls 32 x _ w (fine_ref x 32 (Nat.le_refl _))
end Go.Proofs.Ytkeeknlfommieaa.PF
namespace Go.Proofs.Ytkeeknlfommieaa.PF
open Go.RowKit Go.Proofs.YtkeeknlfommieaaW.PrintWords Go.Proofs.YtkeeknlfommieaaW.PrintLast Go.Proofs.YtkeeknlfommieaaW.PrintMore

structure BelowOf (wr : World) where
  w : World
  h : Below wr.heap.size wr w
instance (wr : World) : Inhabited (BelowOf wr) := ⟨⟨wr, Below.refl _ _⟩⟩
theorem wp_region_below {P : Program} {id : Nat} {Q : Exit → Act → World → Prop} {a : Act} {w : World} {l : List Oper} (wr : World) (hw : Below wr.heap.size wr w) (hm : P.follows .mixedOrders = true) (hB : Region.lexB .any l.toArray = true)
    (h : wpQuiet P l.toArray (fun w' => ∃ p : BelowOf wr, w' = p.w) (fun a' => ∀ w', (∃ p : BelowOf wr, w' = p.w) → Q .normal a' w') l a) : (Code.region id l.toArray true).wp P Q a w :=
  wp_region_quiet (C := fun w' => ∃ p : BelowOf wr, w' = p.w) hm hB ⟨⟨_, below_drew hw⟩, rfl⟩ (by simpa using h)
theorem BelowOf.cell {wr : World} {a : Addr} {v : Value} (h : wr.cell? a = some v) (p : BelowOf wr) : p.w.cell? a = some v := (p.h.cell (World.block_lt_of_cell? wr _ h)).trans h
theorem BelowOf.calls {P : Program} {f : FuncId} {args : Array Value} {wr : World} {p : BelowOf wr} {v : Value}
    (h : Calls P f args p.w fun e w' => e = .returned v ∧ Below p.w.heap.size p.w w') : Calls P f args p.w fun e w'' => e = .returned v ∧ ∃ q : BelowOf wr, w'' = q.w :=
  h.mono fun _ w' ⟨he, hb⟩ => ⟨he, ⟨w', p.h.trans (hb.mono p.h.size)⟩, rfl⟩
end Go.Proofs.Ytkeeknlfommieaa.PF
